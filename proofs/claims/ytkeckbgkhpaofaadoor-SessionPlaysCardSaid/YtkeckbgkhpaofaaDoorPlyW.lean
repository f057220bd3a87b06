/-
  The walk of SessionPlays.
-/
import Derived.Test.YtkeckbgkhpaofaaDoorProg
import Derived.Test.YtkeckbgkhpaofaaDoorPlyP
namespace Go.Proofs.YtkeckbgkhpaofaaDoor
open Go.RowKit Go.Sx
set_option linter.unusedVariables false
set_option linter.unusedSimpArgs false
set_option linter.unnecessarySimpa false
set_option maxRecDepth 100000
theorem plays10_walk (W : World) (hLW : Laid W) (adf : Option Addr) (cf : Nat) (f : List LastV) (ad : Option Addr) (c : Nat) (l : List ReqV) (client : Int) (hok : ∀ q ∈ l, ReqV.OK q) (hnf : adf = none → cf = 0) (hln : l.length ≤ 1100000000000) (rw1 : RowsAt W adf f.length 3 (fun k => LastV.cells (f.getD k dLast))) (rw2 : RowsAt W ad l.length 40 (fun k => ReqV.cells (l.getD k dReq))) : Calls Tryd.prog 11 #[.slice adf f.length cf, .slice ad l.length c, .int .i64 client] W (Ret fun rv w' => rv = .bool true ∧ Below W.heap.size W w') := by
  refine enter (args := [.slice adf f.length cf, .slice ad l.length c, .int .i64 client]) Tryd.func11 rfl Tryd.ntmps11 (Nat.le_of_ble_eq_true (by kernel_rfl)) ?_
  refine GoC.slots (S' := [(0, .slice adf f.length cf), (1, .slice ad l.length c), (2, .int .i64 client)]) rfl ?_
  refine GoC.seq ?_
  refine GoC.regT [1] (.rd 0 .done) (by kernel_rfl) (by kernel_rfl) ?_
  refine GoR.phaseK [(0, .gen [])] [6, 0, 1, 2] [] [(6, .bool false), (0, .slice adf f.length cf), (1, .slice ad l.length c), (2, .int .i64 client)] (by kernel_rfl) rfl ak0 ?_
  refine GoR.done (GoQ.thn (GoC.seq (GoC.seq ?_)))
  refine GoC.regT [255, 255, 255, 255, 255, 255, 255, 255] (.rd 0 (.ef 1 (.rd 2 (.rd 3 (.rd 4 (.rd 5 (.rd 6 (.rd 7 .done)))))))) (by kernel_rfl) (by kernel_rfl) ?_
  refine GoR.phaseK [(0, .gen [])] [19, 6, 0, 1, 2] [] [(19, .slice ad l.length c), (6, .bool false), (0, .slice adf f.length cf), (1, .slice ad l.length c), (2, .int .i64 client)] (by kernel_rfl) rfl ak0 ?_
  refine GoR.call rfl rfl (by kernel_rfl) (f := 13) (args := #[.slice ad l.length c]) (by kernel_rfl) Tryd.call13 (few10_spec l (fun q hq => (hok q hq).op.small) (by first | assumption | omega) (fun w h => rw2.base (fun k _ => (reqF).size _) h 0 rfl) (St.start W)) ?_
  rintro v2 w3 ⟨rfl, hs1⟩
  refine ⟨(opn (by kernel_rfl)), ?_⟩
  refine GoR.phaseK [(2, .gen []), (3, .gen [])] [22, 6, 0, 1, 2] [] [(22, .bool (!(few (l.map fun r => r.op)))), (6, .bool false), (0, .slice adf f.length cf), (1, .slice ad l.length c), (2, .int .i64 client)] (by kernel_rfl) rfl ak0 ?_
  rcases Bool.eq_false_or_eq_true (!(few (l.map fun r => r.op))) with h4 | h4
  · refine GoR.setB 22 true (by decide) (by kernel_rfl) h4 ?_
    have h4n : (few (l.map fun r => r.op)) = false := notT h4
    refine GoR.phaseK [(4, .gen []), (5, .gen []), (6, .gen []), (7, .gen [])] [26, 6, 0, 1, 2] [] [(26, .bool true), (6, .bool false), (0, .slice adf f.length cf), (1, .slice ad l.length c), (2, .int .i64 client)] (by kernel_rfl) rfl ak0 ?_
    refine GoR.done (GoQ.thn (GoC.condT (by kernel_rfl) (GoC.seq ?_)))
    refine GoC.regT [3, 3] (.ef 0 (.rd 1 .done)) (by kernel_rfl) (by kernel_rfl) ?_
    refine GoR.call rfl rfl (by kernel_rfl) (f := 14) (args := #[]) (by kernel_rfl) Tryd.call14 (works10_spec (fun w h => hLW.base h 0 rfl) hs1) ?_
    rintro v6 w7 ⟨rfl, hs5⟩
    refine ⟨(opn (by kernel_rfl)), ?_⟩
    refine GoR.phaseK [(1, .gen [])] [6, 0, 1, 2] [] [(6, .bool true), (0, .slice adf f.length cf), (1, .slice ad l.length c), (2, .int .i64 client)] (by kernel_rfl) rfl ak0 ?_
    refine GoR.done (GoQ.thn (GoC.ret (GoQ.skipCR ?_)))
    refine GoQ.done (.inl rfl) (v := .bool true) (fun a hf => results1 rfl (by kernel_rfl) a hf) ?_
    exact ⟨rfl, hs5.below 0 rfl⟩
  · refine GoR.setB 22 false (by decide) (by kernel_rfl) h4 ?_
    have h4n : (few (l.map fun r => r.op)) = true := notF h4
    refine GoR.phaseK [(4, .gen []), (5, .gen []), (6, .gen []), (7, .gen [])] [26, 6, 0, 1, 2] [] [(26, .bool (decide (((f.length : Nat) : Int) > 20))), (6, .bool false), (0, .slice adf f.length cf), (1, .slice ad l.length c), (2, .int .i64 client)] (by kernel_rfl) rfl ak0 ?_
    refine GoR.done (GoQ.thn ?_)
    refine GoC.cond (t := decide (((f.length : Nat) : Int) > 20)) (by kernel_rfl) (fun h8 => ?_) (fun h8 => ?_)
    · have h8' : ((f.length : Nat) : Int) > 20 := of_decide_eq_true h8
      refine GoC.seq ?_
      refine GoC.regT [3, 3] (.ef 0 (.rd 1 .done)) (by kernel_rfl) (by kernel_rfl) ?_
      refine GoR.call rfl rfl (by kernel_rfl) (f := 14) (args := #[]) (by kernel_rfl) Tryd.call14 (works10_spec (fun w h => hLW.base h 0 rfl) hs1) ?_
      rintro v10 w11 ⟨rfl, hs9⟩
      refine ⟨(opn (by kernel_rfl)), ?_⟩
      refine GoR.phaseK [(1, .gen [])] [6, 0, 1, 2] [] [(6, .bool true), (0, .slice adf f.length cf), (1, .slice ad l.length c), (2, .int .i64 client)] (by kernel_rfl) rfl ak0 ?_
      refine GoR.done (GoQ.thn (GoC.ret (GoQ.skipCR ?_)))
      refine GoQ.done (.inl rfl) (v := .bool true) (fun a hf => results1 rfl (by kernel_rfl) a hf) ?_
      exact ⟨rfl, hs9.below 0 rfl⟩
    · have h8' : ¬ (((f.length : Nat) : Int) > 20) := of_decide_eq_false h8
      refine GoC.skip (GoQ.thn (GoC.seq ?_))
      refine GoC.regT [511, 511, 511, 511, 511, 511, 511, 511, 511] (.ef 0 (.rd 1 (.ef 2 (.ef 3 (.rd 4 (.rd 5 (.rd 6 (.rd 7 (.rd 8 .done))))))))) (by kernel_rfl) (by kernel_rfl) ?_
      refine GoR.sliceLit0 rfl (by kernel_rfl) (t := 43) (e := 41) (by kernel_rfl) (by kernel_rfl) (ti := Tryd.t41) (by kernel_rfl) hs1 ?_
      intro b12 w13 hs14 hz15
      have hs16 : St W ((Sl (some ⟨b12, 0, none⟩) 0 41 3 LastV.cells ([] : List LastV)) :: (Base W) :: []) w13 := St.slOf (l := ([] : List LastV)) (f := LastV.cells) hs14 hz15 (lastF).size (by simp only [List.length_cons, List.length_nil, maxLen]; omega) (by kernel_rfl)
      refine ⟨(opn (by kernel_rfl)), ?_⟩
      refine GoR.phaseK [(1, .gen [])] [30, 29, 6, 0, 1, 2] [] [(30, .slice adf f.length cf), (29, .slice (some ⟨b12, 0, none⟩) 0 0), (6, .bool false), (0, .slice adf f.length cf), (1, .slice ad l.length c), (2, .int .i64 client)] (by kernel_rfl) rfl ak0 ?_
      refine GoR.append rfl (by kernel_rfl) lastsOK lastF (ad := some ⟨b12, 0, none⟩) (c := 0) (xs := ([] : List LastV)) (ys := f) (adx := adf) (cx := cf) dLast (by kernel_rfl) hs16 (rw1.base (fun k _ => (lastF).size _) hs16 1 rfl) hnf (by simp only [List.length_nil]; omega) (by simp only [List.length_nil]; omega) ?_
      intro ad19 c20 w17 hs18
      refine ⟨(opn (by kernel_rfl)), ?_⟩
      refine GoR.call rfl rfl (by kernel_rfl) (f := 34) (args := #[.slice ad19 f.length c20]) (by kernel_rfl) Tryd.call34 (sof_spec f (by omega) (hs18.slNone 0 rfl) (fun w h => h.rows 0 rfl (lastF).size _) hs18) ?_
      rintro v26 w27 (⟨p21, rfl, h22, hs23⟩ | ⟨rfl, h24, hs25⟩)
      · have hf8 : f.length = 8 := tof_len h22
        refine ⟨(opn (by kernel_rfl)), ?_⟩
        refine GoR.phaseK [(4, .gen []), (5, .gen []), (6, .gen []), (7, .gen []), (8, .gen [])] [8, 7, 6, 0, 1, 2] [] [(8, .int .i64 0), (7, .pointer (some ⟨p21, 0, none⟩)), (6, .bool false), (0, .slice adf f.length cf), (1, .slice ad l.length c), (2, .int .i64 client)] (by kernel_rfl) rfl ak0 ?_
        refine GoR.done (GoQ.thn (GoC.seq ?_))
        refine GoC.regT [255, 255, 255, 255, 255, 255, 255, 255] (.rd 0 (.ef 1 (.rd 2 (.rd 3 (.rd 4 (.ef 5 (.ef 6 (.rd 7 .done)))))))) (by kernel_rfl) (by kernel_rfl) ?_
        refine GoR.phaseK [(0, .gen [])] [36, 8, 7, 6, 1, 2] [] [(36, .slice adf f.length cf), (8, .int .i64 0), (7, .pointer (some ⟨p21, 0, none⟩)), (6, .bool false), (1, .slice ad l.length c), (2, .int .i64 client)] (by kernel_rfl) rfl ak0 ?_
        refine GoR.call rfl rfl (by kernel_rfl) (f := 35) (args := #[.slice adf f.length cf]) (by kernel_rfl) Tryd.call35 (rtof_spec f (by omega) (fun w h => rw1.base (fun k _ => (lastF).size _) h 2 rfl) hs23) ?_
        rintro v32 w33 (⟨rfl, h28, hs29⟩ | ⟨rfl, h30, hs31⟩)
        · have hf8 : f.length = 8 := tof_len h28
          refine ⟨(opn (by kernel_rfl)), ?_⟩
          refine GoR.phaseK [(2, .gen []), (3, .gen []), (4, .gen [])] [39, 38, 8, 7, 6, 1, 2] [] [(39, .int .i64 0), (38, .agg (arrCells LastV.cells f)), (8, .int .i64 0), (7, .pointer (some ⟨p21, 0, none⟩)), (6, .bool false), (1, .slice ad l.length c), (2, .int .i64 client)] (by kernel_rfl) rfl ak0 ?_
          refine GoR.alloc rfl rfl (by kernel_rfl) (z := .agg #[.int .u64 0, .int .i64 0, .string (⟨#[]⟩ : ByteArray), .int .u64 0, .int .i64 0, .string (⟨#[]⟩ : ByteArray), .int .u64 0, .int .i64 0, .string (⟨#[]⟩ : ByteArray), .int .u64 0, .int .i64 0, .string (⟨#[]⟩ : ByteArray), .int .u64 0, .int .i64 0, .string (⟨#[]⟩ : ByteArray), .int .u64 0, .int .i64 0, .string (⟨#[]⟩ : ByteArray), .int .u64 0, .int .i64 0, .string (⟨#[]⟩ : ByteArray), .int .u64 0, .int .i64 0, .string (⟨#[]⟩ : ByteArray)]) (by kernel_rfl) hs29 (cs := #[.int .u64 0, .int .i64 0, .string (⟨#[]⟩ : ByteArray), .int .u64 0, .int .i64 0, .string (⟨#[]⟩ : ByteArray), .int .u64 0, .int .i64 0, .string (⟨#[]⟩ : ByteArray), .int .u64 0, .int .i64 0, .string (⟨#[]⟩ : ByteArray), .int .u64 0, .int .i64 0, .string (⟨#[]⟩ : ByteArray), .int .u64 0, .int .i64 0, .string (⟨#[]⟩ : ByteArray), .int .u64 0, .int .i64 0, .string (⟨#[]⟩ : ByteArray), .int .u64 0, .int .i64 0, .string (⟨#[]⟩ : ByteArray)]) (by kernel_rfl) ?_
          intro b34 w35 hs36
          refine ⟨(opn (by kernel_rfl)), ?_⟩
          refine GoR.store rfl rfl (by kernel_rfl) (b := b34) (off := 0) (v := .agg (arrCells LastV.cells f)) (by kernel_rfl) (by kernel_rfl) (ti := Tryd.t76) (by kernel_rfl) hs36 0 rfl (arrvCells lastF (show (f).length = 8 from hf8) (by kernel_rfl)) (arrvOne lastF) (arrvRoom lastF (show (f).length = 8 from hf8) (by kernel_rfl)) (cs' := arrCells LastV.cells f) (L' := (Cel b34 (arrCells LastV.cells f) 76) :: (Cel p21 (arrCells LastV.cells f) 86) :: (Sl ad19 c20 41 3 LastV.cells f) :: (Base W) :: []) (arrvPut lastF (show (f).length = 8 from hf8) (by kernel_rfl)) rfl ?_
          intro w37 hs38
          refine ⟨(opn (by kernel_rfl)), ?_⟩
          refine GoR.phaseK [(7, .gen [])] [10, 9, 8, 7, 6, 1, 2] [] [(10, .int .i64 0), (9, .pointer (some ⟨b34, 0, none⟩)), (8, .int .i64 0), (7, .pointer (some ⟨p21, 0, none⟩)), (6, .bool false), (1, .slice ad l.length c), (2, .int .i64 client)] (by kernel_rfl) rfl ak0 ?_
          refine GoR.done (GoQ.thn (GoC.seq (GoC.seq ?_)))
          refine GoC.regT [1023, 1023, 1023, 1023, 1023, 1023, 1023, 1023, 1023, 1023] (.rd 0 (.rd 1 (.rd 2 (.rd 3 (.rd 4 (.rd 5 (.rd 6 (.rd 7 (.rd 8 (.rd 9 .done)))))))))) (by kernel_rfl) (by kernel_rfl) ?_
          refine GoR.phaseK [(0, .gen []), (1, .gen []), (2, .gen []), (3, .gen []), (4, .gen []), (5, .gen []), (6, .gen []), (7, .gen []), (8, .gen []), (9, .gen [])] [49, 10, 9, 7, 6, 1, 2] [] [(49, .bool false), (10, .int .i64 0), (9, .pointer (some ⟨b34, 0, none⟩)), (7, .pointer (some ⟨p21, 0, none⟩)), (6, .bool false), (1, .slice ad l.length c), (2, .int .i64 client)] (by kernel_rfl) rfl ak0 ?_
          refine GoR.done (GoQ.thn (GoC.condF (by kernel_rfl) (GoC.skip (GoQ.thn (GoC.seq (GoC.seq ?_))))))
          refine GoC.regT [3, 3] (.rd 0 (.rd 1 .done)) (by kernel_rfl) (by kernel_rfl) ?_
          refine GoR.phaseK [(0, .gen []), (1, .gen [])] [51, 9, 7, 6, 1, 2] [] [(51, .bool false), (9, .pointer (some ⟨b34, 0, none⟩)), (7, .pointer (some ⟨p21, 0, none⟩)), (6, .bool false), (1, .slice ad l.length c), (2, .int .i64 client)] (by kernel_rfl) rfl ak0 ?_
          refine GoR.done (GoQ.thn (GoC.condF (by kernel_rfl) (GoC.skip (GoQ.thn (GoC.seq ?_)))))
          refine GoC.regT [3, 3] (.ef 0 (.rd 1 .done)) (by kernel_rfl) (by kernel_rfl) ?_
          refine GoR.call rfl rfl (by kernel_rfl) (f := 16) (args := #[]) (by kernel_rfl) Tryd.call16 (new_spec hs38) ?_
          rintro v42 w43 ⟨p39, r40, rfl, hs41⟩
          refine ⟨(opn (by kernel_rfl)), ?_⟩
          refine GoR.phaseK [(1, .gen [])] [11, 9, 7, 6, 1, 2] [] [(11, .pointer (some ⟨p39, 0, none⟩)), (9, .pointer (some ⟨b34, 0, none⟩)), (7, .pointer (some ⟨p21, 0, none⟩)), (6, .bool false), (1, .slice ad l.length c), (2, .int .i64 client)] (by kernel_rfl) rfl ak0 ?_
          refine GoR.done (GoQ.thn (GoC.seq ?_))
          refine GoC.regT [7, 7, 7] (.rd 0 (.ef 1 (.rd 2 .done))) (by kernel_rfl) (by kernel_rfl) ?_
          refine GoR.phaseK [(0, .gen [])] [54, 11, 9, 7, 6, 1, 2] [] [(54, .agg #[.slice none 0 0]), (11, .pointer (some ⟨p39, 0, none⟩)), (9, .pointer (some ⟨b34, 0, none⟩)), (7, .pointer (some ⟨p21, 0, none⟩)), (6, .bool false), (1, .slice ad l.length c), (2, .int .i64 client)] (by kernel_rfl) rfl ak0 ?_
          refine GoR.box rfl rfl (by kernel_rfl) (v := .agg #[.slice none 0 0]) (by kernel_rfl) hs41 (cs := #[.slice none 0 0]) (by kernel_rfl) ?_
          intro b44 w45 hs46
          refine ⟨(opn (by kernel_rfl)), ?_⟩
          refine GoR.phaseK [(2, .gen [])] [12, 11, 9, 7, 6, 1, 2] [] [(12, .pointer (some ⟨b44, 0, none⟩)), (11, .pointer (some ⟨p39, 0, none⟩)), (9, .pointer (some ⟨b34, 0, none⟩)), (7, .pointer (some ⟨p21, 0, none⟩)), (6, .bool false), (1, .slice ad l.length c), (2, .int .i64 client)] (by kernel_rfl) rfl ak0 ?_
          refine GoR.done (GoQ.thn (GoC.seq (GoC.seq ?_)))
          refine GoC.regT [1] (.rd 0 .done) (by kernel_rfl) (by kernel_rfl) ?_
          refine GoR.phaseK [(0, .gen [])] [13, 12, 11, 9, 7, 6, 1, 2] [] [(13, .int .i64 0), (12, .pointer (some ⟨b44, 0, none⟩)), (11, .pointer (some ⟨p39, 0, none⟩)), (9, .pointer (some ⟨b34, 0, none⟩)), (7, .pointer (some ⟨p21, 0, none⟩)), (6, .bool false), (1, .slice ad l.length c), (2, .int .i64 client)] (by kernel_rfl) rfl ak0 ?_
          refine GoR.done (GoQ.thn (GoC.block ?_))
          have hs47 : St W ((Sl ad19 c20 41 3 LastV.cells f) :: (Cel p21 (arrCells LastV.cells f) 86) :: (Cel p39 #[.map (some r40)] 89) :: (MapA Value.string Value.string r40 ([] : List (ByteArray × ByteArray))) :: (Cel b34 (arrCells LastV.cells f) 76) :: (Cel b44 #[.slice none 0 0] 68) :: (Base W) :: []) w45 := (((((((hs46.pull 6 rfl).pull 1 rfl).pull 4 rfl).pull 4 rfl).pull 4 rfl).pull 5 rfl).pull 6 rfl)
          have hs48 : St W ((Cel p21 (arrCells LastV.cells f) 86) :: (Cel p39 #[.map (some r40)] 89) :: (MapA Value.string Value.string r40 ([] : List (ByteArray × ByteArray))) :: (Cel b34 (arrCells LastV.cells f) 76) :: (Cel b44 #[.slice none 0 0] 68) :: (Base W) :: []) w45 := hs47.drop 1
          have hs49 : St W ((Sl none 0 61 2 ItemV.cells (lst [])) :: (Cel p21 (arrCells LastV.cells f) 86) :: (Cel p39 #[.map (some r40)] 89) :: (MapA Value.string Value.string r40 ([] : List (ByteArray × ByteArray))) :: (Cel b34 (arrCells LastV.cells f) 76) :: (Cel b44 #[.slice none ((lst []).length) 0] 68) :: (Base W) :: []) w45 := by rw [lst_nil10]; exact hs48.slNil 61 2 ItemV.cells
          have hs50 : St W ((Cel p21 (arrCells LastV.cells f) 86) :: (Cel p39 #[.map (some r40)] 89) :: (MapA Value.string Value.string r40 ([] : List (ByteArray × ByteArray))) :: (Cel b34 (arrCells LastV.cells f) 76) :: (Cel b44 #[.slice none ((lst []).length) 0] 68) :: (Sl none 0 61 2 ItemV.cells (lst [])) :: (Base W) :: []) w45 := (((((((hs49.pull 6 rfl).pull 1 rfl).pull 6 rfl).pull 6 rfl).pull 6 rfl).pull 6 rfl).pull 6 rfl)
          refine GoC.loop (T := Nat × (List LastV) × (List (ByteArray × ByteArray)) × (Option Addr) × Nat) (fun gg => [(1, .slice ad l.length c), (2, .int .i64 client), (7, .pointer (some ⟨p21, 0, none⟩)), (9, .pointer (some ⟨b34, 0, none⟩)), (11, .pointer (some ⟨p39, 0, none⟩)), (12, .pointer (some ⟨b44, 0, none⟩)), (13, .int .i64 (gg.1 : Nat))]) (fun gg w => (gg.1 ≤ l.length ∧ PI (gg.2.1, gg.2.2.1)) ∧ St W ((Cel p21 (arrCells LastV.cells gg.2.1) 86) :: (Cel p39 #[.map (some r40)] 89) :: (MapA Value.string Value.string r40 gg.2.2.1) :: (Cel b34 (arrCells LastV.cells gg.2.1) 76) :: (Cel b44 #[.slice gg.2.2.2.1 ((lst gg.2.2.1).length) gg.2.2.2.2] 68) :: (Sl gg.2.2.2.1 gg.2.2.2.2 61 2 ItemV.cells (lst gg.2.2.1)) :: (Base W) :: []) w) (fun gg => l.length - gg.1) (0, f, [], none, 0) [1, 2, 7, 9, 11, 12, 13] (by kernel_rfl) ⟨⟨Nat.zero_le _, PI.start hf8⟩, hs50⟩ ?_
          rintro ⟨kk, tA, mA, adr, cr⟩ w51 ⟨hr0, hs52⟩
          have hr : kk ≤ l.length ∧ PI (tA, mA) := hr0
          have hs53 : St W ((Cel p21 (arrCells LastV.cells tA) 86) :: (Cel p39 #[.map (some r40)] 89) :: (MapA Value.string Value.string r40 mA) :: (Cel b34 (arrCells LastV.cells tA) 76) :: (Cel b44 #[.slice adr ((lst mA).length) cr] 68) :: (Sl adr cr 61 2 ItemV.cells (lst mA)) :: (Base W) :: []) w51 := hs52
          refine GoC.slots (S' := [(1, .slice ad l.length c), (2, .int .i64 client), (7, .pointer (some ⟨p21, 0, none⟩)), (9, .pointer (some ⟨b34, 0, none⟩)), (11, .pointer (some ⟨p39, 0, none⟩)), (12, .pointer (some ⟨b44, 0, none⟩)), (13, .int .i64 (kk : Nat))]) rfl ?_
          have htA : tA.length = 8 := hr.2.inv.len
          refine GoC.seq (GoC.seq ?_)
          refine GoC.regT [15, 15, 15, 15] (.rd 0 (.rd 1 (.rd 2 (.rd 3 .done)))) (by kernel_rfl) (by kernel_rfl) ?_
          refine GoR.phaseK [(0, .gen []), (1, .gen []), (2, .gen []), (3, .gen [])] [59, 1, 2, 7, 9, 11, 12, 13] [] [(59, .bool (decide (((kk : Nat) : Int) < (l.length : Nat)))), (1, .slice ad l.length c), (2, .int .i64 client), (7, .pointer (some ⟨p21, 0, none⟩)), (9, .pointer (some ⟨b34, 0, none⟩)), (11, .pointer (some ⟨p39, 0, none⟩)), (12, .pointer (some ⟨b44, 0, none⟩)), (13, .int .i64 (kk : Nat))] (by kernel_rfl) rfl ak0 ?_
          refine GoR.done (GoQ.thn ?_)
          refine GoC.cond (t := decide (((kk : Nat) : Int) < (l.length : Nat))) (by kernel_rfl) (fun h54 => ?_) (fun h54 => ?_)
          · have h54' : ((kk : Nat) : Int) < (l.length : Nat) := of_decide_eq_true h54
            have hkk : kk < l.length := by omega
            obtain ⟨ab55, ao56, rfl⟩ := RowsAt.isSome rw2 (by omega)
            refine GoC.skip (GoQ.thn (GoC.seq (GoC.block (GoC.seq ?_))))
            refine GoC.regT [8191, 8191, 8191, 8191, 8191, 8191, 8191, 8191, 8191, 8191, 8191, 8191, 8191] (.rd 0 (.rd 1 (.rd 2 (.rd 3 (.rd 4 (.rd 5 (.ef 6 (.rd 7 (.rd 8 (.rd 9 (.ef 10 (.ef 11 (.rd 12 .done))))))))))))) (by kernel_rfl) (by kernel_rfl) ?_
            refine GoR.phaseK [(0, .gen []), (1, .gen []), (2, .gen []), (3, .gen []), (4, .as_ (.pointer (some ⟨ab55, ao56 + (kk * 40), none⟩)) .at_), (5, .agg (ReqV.cells (l.getD kk dReq)))] [68, 64, 63, 1, 2, 7, 9, 11, 12, 13] [(4, [.prop (0 ≤ ((kk : Nat) : Int) ∧ ((kk : Nat) : Int) < ((l.length : Nat) : Int)), .prop (Value.pointer (some (Addr.add ⟨ab55, ao56, none⟩ (Int.toNat (kk : Nat) * 40))) = Value.pointer (some ⟨ab55, ao56 + (kk * 40), none⟩))]), (5, [.prop (Array.size (ReqV.cells (l.getD kk dReq)) = 40), .cells ⟨ab55, ao56 + (kk * 40), none⟩ (ReqV.cells (l.getD kk dReq))])] [(68, .agg (ReqV.cells (l.getD kk dReq))), (64, .pointer (some ⟨p39, 0, none⟩)), (63, .pointer (some ⟨p21, 0, none⟩)), (1, .slice (some ⟨ab55, ao56, none⟩) l.length c), (2, .int .i64 client), (7, .pointer (some ⟨p21, 0, none⟩)), (9, .pointer (some ⟨b34, 0, none⟩)), (11, .pointer (some ⟨p39, 0, none⟩)), (12, .pointer (some ⟨b44, 0, none⟩)), (13, .int .i64 (kk : Nat))] (by kernel_rfl) rfl (ak (okp (by omega) (okp (ptrAdd _ _ _) ok0)) (ak (okp (by kernel_rfl) (oka (RowsAt.all0 (rw2.base (fun k _ => (reqF).size _) hs53 6 rfl) (by first | omega | (simp only [List.length_set]; omega)) (Nat.le_of_ble_eq_true (by kernel_rfl)) (by kernel_rfl)) ok0)) ak0)) ?_
            refine GoR.call rfl rfl (by kernel_rfl) (f := 15) (args := #[.pointer (some ⟨p21, 0, none⟩), .pointer (some ⟨p39, 0, none⟩), .agg (ReqV.cells (l.getD kk dReq))]) (by kernel_rfl) Tryd.call15 (sdo_spec tA mA (l.getD kk dReq) hr.2.inv.len hr.2.inv.inv.short (fun w h => hLW.base h 3 rfl) (hok _ (getD_mem hkk)).op.amount.1 hs53) ?_
            rintro v58 w59 ⟨rfl, hs57⟩
            refine ⟨(opn (by kernel_rfl)), ?_⟩
            refine GoR.phaseK [(7, .gen []), (8, .gen []), (9, .gen [])] [71, 70, 1, 2, 7, 9, 11, 12, 13] [] [(71, .bool ((sdo tA mA (l.getD kk dReq)).1.2)), (70, .agg (RepV.cells ((sdo tA mA (l.getD kk dReq)).1.1))), (1, .slice (some ⟨ab55, ao56, none⟩) l.length c), (2, .int .i64 client), (7, .pointer (some ⟨p21, 0, none⟩)), (9, .pointer (some ⟨b34, 0, none⟩)), (11, .pointer (some ⟨p39, 0, none⟩)), (12, .pointer (some ⟨b44, 0, none⟩)), (13, .int .i64 (kk : Nat))] (by kernel_rfl) rfl ak0 ?_
            refine GoR.alloc rfl rfl (by kernel_rfl) (z := .agg #[.int .i64 0, .string (⟨#[]⟩ : ByteArray)]) (by kernel_rfl) hs57 (cs := #[.int .i64 0, .string (⟨#[]⟩ : ByteArray)]) (by kernel_rfl) ?_
            intro b60 w61 hs62
            refine ⟨(opn (by kernel_rfl)), ?_⟩
            refine GoR.store rfl rfl (by kernel_rfl) (b := b60) (off := 0) (v := .agg (RepV.cells ((sdo tA mA (l.getD kk dReq)).1.1))) (by kernel_rfl) (by kernel_rfl) (ti := Tryd.t34) (by kernel_rfl) hs62 0 rfl (by kernel_rfl) (by kernel_rfl) (Nat.le_of_ble_eq_true (by kernel_rfl)) (cs' := RepV.cells ((sdo tA mA (l.getD kk dReq)).1.1)) (L' := (Cel b60 (RepV.cells ((sdo tA mA (l.getD kk dReq)).1.1)) 34) :: (Cel p21 (arrCells LastV.cells ((sdo tA mA (l.getD kk dReq)).2.1)) 86) :: (Cel p39 #[.map (some r40)] 89) :: (MapA Value.string Value.string r40 ((sdo tA mA (l.getD kk dReq)).2.2)) :: (Cel b34 (arrCells LastV.cells tA) 76) :: (Cel b44 #[.slice adr ((lst mA).length) cr] 68) :: (Sl adr cr 61 2 ItemV.cells (lst mA)) :: (Base W) :: []) (by kernel_rfl) rfl ?_
            intro w63 hs64
            refine ⟨(opn (by kernel_rfl)), ?_⟩
            refine GoR.phaseK [(12, .gen [])] [15, 14, 1, 2, 7, 9, 11, 12, 13] [] [(15, .bool ((sdo tA mA (l.getD kk dReq)).1.2)), (14, .pointer (some ⟨b60, 0, none⟩)), (1, .slice (some ⟨ab55, ao56, none⟩) l.length c), (2, .int .i64 client), (7, .pointer (some ⟨p21, 0, none⟩)), (9, .pointer (some ⟨b34, 0, none⟩)), (11, .pointer (some ⟨p39, 0, none⟩)), (12, .pointer (some ⟨b44, 0, none⟩)), (13, .int .i64 (kk : Nat))] (by kernel_rfl) rfl ak0 ?_
            refine GoR.done (GoQ.thn (GoC.seq ?_))
            refine GoC.regT [4095, 4095, 4095, 4095, 4095, 4095, 4095, 4095, 4095, 4095, 4095, 4095] (.rd 0 (.rd 1 (.rd 2 (.rd 3 (.rd 4 (.ef 5 (.rd 6 (.rd 7 (.rd 8 (.ef 9 (.ef 10 (.rd 11 .done)))))))))))) (by kernel_rfl) (by kernel_rfl) ?_
            refine GoR.phaseK [(0, .gen []), (1, .gen []), (2, .gen []), (3, .as_ (.pointer (some ⟨ab55, ao56 + (kk * 40), none⟩)) .at_), (4, .agg (ReqV.cells (l.getD kk dReq)))] [77, 73, 15, 14, 1, 2, 7, 9, 11, 12, 13] [(3, [.prop (0 ≤ ((kk : Nat) : Int) ∧ ((kk : Nat) : Int) < ((l.length : Nat) : Int)), .prop (Value.pointer (some (Addr.add ⟨ab55, ao56, none⟩ (Int.toNat (kk : Nat) * 40))) = Value.pointer (some ⟨ab55, ao56 + (kk * 40), none⟩))]), (4, [.prop (Array.size (ReqV.cells (l.getD kk dReq)) = 40), .cells ⟨ab55, ao56 + (kk * 40), none⟩ (ReqV.cells (l.getD kk dReq))])] [(77, .agg (ReqV.cells (l.getD kk dReq))), (73, .pointer (some ⟨b44, 0, none⟩)), (15, .bool ((sdo tA mA (l.getD kk dReq)).1.2)), (14, .pointer (some ⟨b60, 0, none⟩)), (1, .slice (some ⟨ab55, ao56, none⟩) l.length c), (2, .int .i64 client), (7, .pointer (some ⟨p21, 0, none⟩)), (9, .pointer (some ⟨b34, 0, none⟩)), (11, .pointer (some ⟨p39, 0, none⟩)), (12, .pointer (some ⟨b44, 0, none⟩)), (13, .int .i64 (kk : Nat))] (by kernel_rfl) rfl (ak (okp (by omega) (okp (ptrAdd _ _ _) ok0)) (ak (okp (by kernel_rfl) (oka (RowsAt.all0 (rw2.base (fun k _ => (reqF).size _) hs64 7 rfl) (by first | omega | (simp only [List.length_set]; omega)) (Nat.le_of_ble_eq_true (by kernel_rfl)) (by kernel_rfl)) ok0)) ak0)) ?_
            have hs65 : St W ((Cel b34 (arrCells LastV.cells tA) 76) :: (Cel b44 #[.slice adr ((lst mA).length) cr] 68) :: (Sl adr cr 61 2 ItemV.cells (lst mA)) :: (Cel b60 (RepV.cells ((sdo tA mA (l.getD kk dReq)).1.1)) 34) :: (Cel p21 (arrCells LastV.cells ((sdo tA mA (l.getD kk dReq)).2.1)) 86) :: (Cel p39 #[.map (some r40)] 89) :: (MapA Value.string Value.string r40 ((sdo tA mA (l.getD kk dReq)).2.2)) :: (Base W) :: []) w63 := (((hs64.pull 6 rfl).pull 6 rfl).pull 6 rfl)
            refine GoR.call rfl rfl (by kernel_rfl) (f := 36) (args := #[.pointer (some ⟨b34, 0, none⟩), .pointer (some ⟨b44, 0, none⟩), .agg (ReqV.cells (l.getD kk dReq))]) (by kernel_rfl) Tryd.call36 (rsdo_spec tA (lst mA) (l.getD kk dReq) hr.2.inv.len (by rw [lst_length]; exact Nat.le_trans hr.2.inv.inv.len (by decide)) (fun x hx => Nat.le_trans (hr.2.inv.inv.val _ (lst_mem.1 hx)) (by decide)) (hok _ (getD_mem hkk)).op.amount.1 hs65) ?_
            rintro v69 w70 ⟨ad66, c67, rfl, hs68⟩
            refine ⟨(opn (by kernel_rfl)), ?_⟩
            refine GoR.phaseK [(6, .gen []), (7, .gen []), (8, .gen [])] [80, 79, 15, 14, 1, 2, 7, 9, 11, 12, 13] [] [(80, .bool ((rsdo tA (lst mA) (l.getD kk dReq)).1.2)), (79, .agg (RepV.cells ((rsdo tA (lst mA) (l.getD kk dReq)).1.1))), (15, .bool ((sdo tA mA (l.getD kk dReq)).1.2)), (14, .pointer (some ⟨b60, 0, none⟩)), (1, .slice (some ⟨ab55, ao56, none⟩) l.length c), (2, .int .i64 client), (7, .pointer (some ⟨p21, 0, none⟩)), (9, .pointer (some ⟨b34, 0, none⟩)), (11, .pointer (some ⟨p39, 0, none⟩)), (12, .pointer (some ⟨b44, 0, none⟩)), (13, .int .i64 (kk : Nat))] (by kernel_rfl) rfl ak0 ?_
            refine GoR.alloc rfl rfl (by kernel_rfl) (z := .agg #[.int .i64 0, .string (⟨#[]⟩ : ByteArray)]) (by kernel_rfl) hs68 (cs := #[.int .i64 0, .string (⟨#[]⟩ : ByteArray)]) (by kernel_rfl) ?_
            intro b71 w72 hs73
            refine ⟨(opn (by kernel_rfl)), ?_⟩
            refine GoR.store rfl rfl (by kernel_rfl) (b := b71) (off := 0) (v := .agg (RepV.cells ((rsdo tA (lst mA) (l.getD kk dReq)).1.1))) (by kernel_rfl) (by kernel_rfl) (ti := Tryd.t34) (by kernel_rfl) hs73 0 rfl (by kernel_rfl) (by kernel_rfl) (Nat.le_of_ble_eq_true (by kernel_rfl)) (cs' := RepV.cells ((rsdo tA (lst mA) (l.getD kk dReq)).1.1)) (L' := (Cel b71 (RepV.cells ((rsdo tA (lst mA) (l.getD kk dReq)).1.1)) 34) :: (Cel b34 (arrCells LastV.cells ((rsdo tA (lst mA) (l.getD kk dReq)).2.1)) 76) :: (Cel b44 #[.slice ad66 (((rsdo tA (lst mA) (l.getD kk dReq)).2.2).length) c67] 68) :: (Sl ad66 c67 61 2 ItemV.cells ((rsdo tA (lst mA) (l.getD kk dReq)).2.2)) :: (Cel b60 (RepV.cells ((sdo tA mA (l.getD kk dReq)).1.1)) 34) :: (Cel p21 (arrCells LastV.cells ((sdo tA mA (l.getD kk dReq)).2.1)) 86) :: (Cel p39 #[.map (some r40)] 89) :: (MapA Value.string Value.string r40 ((sdo tA mA (l.getD kk dReq)).2.2)) :: (Base W) :: []) (by kernel_rfl) rfl ?_
            intro w74 hs75
            refine ⟨(opn (by kernel_rfl)), ?_⟩
            refine GoR.phaseK [(11, .gen [])] [17, 16, 15, 14, 1, 2, 7, 9, 11, 12, 13] [] [(17, .bool ((rsdo tA (lst mA) (l.getD kk dReq)).1.2)), (16, .pointer (some ⟨b71, 0, none⟩)), (15, .bool ((sdo tA mA (l.getD kk dReq)).1.2)), (14, .pointer (some ⟨b60, 0, none⟩)), (1, .slice (some ⟨ab55, ao56, none⟩) l.length c), (2, .int .i64 client), (7, .pointer (some ⟨p21, 0, none⟩)), (9, .pointer (some ⟨b34, 0, none⟩)), (11, .pointer (some ⟨p39, 0, none⟩)), (12, .pointer (some ⟨b44, 0, none⟩)), (13, .int .i64 (kk : Nat))] (by kernel_rfl) rfl ak0 ?_
            refine GoR.done (GoQ.thn (GoC.seq ?_))
            refine GoC.regD [0, 0, 3, 7, 15, 15, 63, 127, 255, 511, 1023, 511, 4095, 8191, 16383] (.rd 0 (.rd 1 (.rd 2 (.rd 3 (.rd 4 (.rd 5 (.rd 6 (.rd 7 (.rd 8 (.rd 9 (.rd 11 (.ef 10 (.ef 12 (.rd 13 (.rd 14 .done))))))))))))))) (by kernel_rfl) (by kernel_rfl) noPan_body (by kernel_rfl) hs75 ?_
            intro w76 hs77 hw78
            refine GoR.phaseK [(0, .agg (RepV.cells ((sdo tA mA (l.getD kk dReq)).1.1))), (1, .agg (RepV.cells ((rsdo tA (lst mA) (l.getD kk dReq)).1.1)))] [82, 81, 17, 15, 1, 2, 7, 9, 11, 12, 13] [(0, [.prop (Array.size (RepV.cells ((sdo tA mA (l.getD kk dReq)).1.1)) = 2), .cells ⟨b60, 0, none⟩ (RepV.cells ((sdo tA mA (l.getD kk dReq)).1.1))]), (1, [.prop (Array.size (RepV.cells ((rsdo tA (lst mA) (l.getD kk dReq)).1.1)) = 2), .cells ⟨b71, 0, none⟩ (RepV.cells ((rsdo tA (lst mA) (l.getD kk dReq)).1.1))])] [(82, .agg (RepV.cells ((rsdo tA (lst mA) (l.getD kk dReq)).1.1))), (81, .agg (RepV.cells ((sdo tA mA (l.getD kk dReq)).1.1))), (17, .bool ((rsdo tA (lst mA) (l.getD kk dReq)).1.2)), (15, .bool ((sdo tA mA (l.getD kk dReq)).1.2)), (1, .slice (some ⟨ab55, ao56, none⟩) l.length c), (2, .int .i64 client), (7, .pointer (some ⟨p21, 0, none⟩)), (9, .pointer (some ⟨b34, 0, none⟩)), (11, .pointer (some ⟨p39, 0, none⟩)), (12, .pointer (some ⟨b44, 0, none⟩)), (13, .int .i64 (kk : Nat))] (by kernel_rfl) rfl (ak (okp (by kernel_rfl) (oka (hs77.cells 4 0 rfl (by kernel_rfl)) ok0)) (ak (okp (by kernel_rfl) (oka (hs77.cells 0 0 rfl (by kernel_rfl)) ok0)) ak0)) ?_
            refine GoR.eqAgg rfl (by kernel_rfl) (b := false) (t := 34) (xs := RepV.cells ((sdo tA mA (l.getD kk dReq)).1.1)) (ys := RepV.cells ((rsdo tA (lst mA) (l.getD kk dReq)).1.1)) (m := 2) (by kernel_rfl) (by kernel_rfl) (by decide) (by kernel_rfl) (r := !(decide ((sdo tA mA (l.getD kk dReq)).1.1 = (rsdo tA (lst mA) (l.getD kk dReq)).1.1))) (aggNe  (repEq ((sdo tA mA (l.getD kk dReq)).1.1) ((rsdo tA (lst mA) (l.getD kk dReq)).1.1))) ?_
            refine GoR.phaseK [(3, .gen [])] [84, 17, 15, 1, 2, 7, 9, 11, 12, 13] [] [(84, .bool (!(decide ((sdo tA mA (l.getD kk dReq)).1.1 = (rsdo tA (lst mA) (l.getD kk dReq)).1.1)))), (17, .bool ((rsdo tA (lst mA) (l.getD kk dReq)).1.2)), (15, .bool ((sdo tA mA (l.getD kk dReq)).1.2)), (1, .slice (some ⟨ab55, ao56, none⟩) l.length c), (2, .int .i64 client), (7, .pointer (some ⟨p21, 0, none⟩)), (9, .pointer (some ⟨b34, 0, none⟩)), (11, .pointer (some ⟨p39, 0, none⟩)), (12, .pointer (some ⟨b44, 0, none⟩)), (13, .int .i64 (kk : Nat))] (by kernel_rfl) rfl ak0 ?_
            rcases Bool.eq_false_or_eq_true (!(decide ((sdo tA mA (l.getD kk dReq)).1.1 = (rsdo tA (lst mA) (l.getD kk dReq)).1.1))) with h79 | h79
            · refine GoR.setB 84 true (by decide) (by kernel_rfl) h79 ?_
              have h79n : (decide ((sdo tA mA (l.getD kk dReq)).1.1 = (rsdo tA (lst mA) (l.getD kk dReq)).1.1)) = false := notT h79
              have h79n' : ¬ ((sdo tA mA (l.getD kk dReq)).1.1 = (rsdo tA (lst mA) (l.getD kk dReq)).1.1) := of_decide_eq_false h79n
              exact absurd h79 (by rw [rsdo_lst hr.2.inv]; simp)
            · refine GoR.setB 84 false (by decide) (by kernel_rfl) h79 ?_
              have h79n : (decide ((sdo tA mA (l.getD kk dReq)).1.1 = (rsdo tA (lst mA) (l.getD kk dReq)).1.1)) = true := notF h79
              have h79n' : (sdo tA mA (l.getD kk dReq)).1.1 = (rsdo tA (lst mA) (l.getD kk dReq)).1.1 := of_decide_eq_true h79n
              refine GoR.phaseK [(4, .gen []), (5, .gen []), (6, .gen []), (7, .gen []), (8, .gen [])] [89, 1, 2, 7, 9, 11, 12, 13] [] [(89, .bool (!(((sdo tA mA (l.getD kk dReq)).1.2) == ((rsdo tA (lst mA) (l.getD kk dReq)).1.2)))), (1, .slice (some ⟨ab55, ao56, none⟩) l.length c), (2, .int .i64 client), (7, .pointer (some ⟨p21, 0, none⟩)), (9, .pointer (some ⟨b34, 0, none⟩)), (11, .pointer (some ⟨p39, 0, none⟩)), (12, .pointer (some ⟨b44, 0, none⟩)), (13, .int .i64 (kk : Nat))] (by kernel_rfl) rfl ak0 ?_
              rcases Bool.eq_false_or_eq_true (!(((sdo tA mA (l.getD kk dReq)).1.2) == ((rsdo tA (lst mA) (l.getD kk dReq)).1.2))) with h80 | h80
              · refine GoR.setB 89 true (by decide) (by kernel_rfl) h80 ?_
                have h80n : (((sdo tA mA (l.getD kk dReq)).1.2) == ((rsdo tA (lst mA) (l.getD kk dReq)).1.2)) = false := notT h80
                exact absurd h80 (by rw [rsdo_lst hr.2.inv]; simp)
              · refine GoR.setB 89 false (by decide) (by kernel_rfl) h80 ?_
                have h80n : (((sdo tA mA (l.getD kk dReq)).1.2) == ((rsdo tA (lst mA) (l.getD kk dReq)).1.2)) = true := notF h80
                refine GoR.phaseK [(9, .gen []), (11, .agg (arrCells LastV.cells ((rsdo tA (lst mA) (l.getD kk dReq)).2.1)))] [92, 90, 89, 1, 2, 7, 9, 11, 12, 13] [(11, [.prop (Array.size ((arrCells LastV.cells ((rsdo tA (lst mA) (l.getD kk dReq)).2.1))) = 24), .cells ⟨b34, 0, none⟩ (arrCells LastV.cells ((rsdo tA (lst mA) (l.getD kk dReq)).2.1))])] [(92, .agg (arrCells LastV.cells ((rsdo tA (lst mA) (l.getD kk dReq)).2.1))), (90, .pointer (some ⟨p21, 0, none⟩)), (89, .bool false), (1, .slice (some ⟨ab55, ao56, none⟩) l.length c), (2, .int .i64 client), (7, .pointer (some ⟨p21, 0, none⟩)), (9, .pointer (some ⟨b34, 0, none⟩)), (11, .pointer (some ⟨p39, 0, none⟩)), (12, .pointer (some ⟨b44, 0, none⟩)), (13, .int .i64 (kk : Nat))] (by kernel_rfl) rfl (ak (okp (arrvSize lastF (show ((rsdo tA (lst mA) (l.getD kk dReq)).2.1).length = 8 from (rsdo_tab hr.2.inv _)) rfl) (oka (hs77.cells 1 0 rfl (by simp)) ok0)) ak0) ?_
                have hs81 : St W ((Cel p21 (arrCells LastV.cells ((sdo tA mA (l.getD kk dReq)).2.1)) 86) :: (Cel b71 (RepV.cells ((rsdo tA (lst mA) (l.getD kk dReq)).1.1)) 34) :: (Cel b34 (arrCells LastV.cells ((rsdo tA (lst mA) (l.getD kk dReq)).2.1)) 76) :: (Cel b44 #[.slice ad66 (((rsdo tA (lst mA) (l.getD kk dReq)).2.2).length) c67] 68) :: (Sl ad66 c67 61 2 ItemV.cells ((rsdo tA (lst mA) (l.getD kk dReq)).2.2)) :: (Cel b60 (RepV.cells ((sdo tA mA (l.getD kk dReq)).1.1)) 34) :: (Cel p39 #[.map (some r40)] 89) :: (MapA Value.string Value.string r40 ((sdo tA mA (l.getD kk dReq)).2.2)) :: (Base W) :: []) w76 := (hs77.pull 5 rfl)
                refine GoR.call rfl rfl (by kernel_rfl) (f := 19) (args := #[.pointer (some ⟨p21, 0, none⟩)]) (by kernel_rfl) Tryd.call19 (sesList_spec ((sdo tA mA (l.getD kk dReq)).2.1) (sdo_tab hr.2.inv _) hs81) ?_
                rintro v85 w86 ⟨ad82, c83, rfl, hs84⟩
                refine ⟨(opl (n := [.prop (Array.size ((arrCells LastV.cells ((rsdo tA (lst mA) (l.getD kk dReq)).2.1))) = 24), .cells ⟨b34, 0, none⟩ (arrCells LastV.cells ((rsdo tA (lst mA) (l.getD kk dReq)).2.1))]) (by kernel_rfl) (okp (arrvSize lastF (show ((rsdo tA (lst mA) (l.getD kk dReq)).2.1).length = 8 from (rsdo_tab hr.2.inv _)) rfl) (oka (hs84.cells 3 0 rfl (by simp)) ok0))), ?_⟩
                refine GoR.call rfl rfl (by kernel_rfl) (f := 37) (args := #[.slice ad82 (((sdo tA mA (l.getD kk dReq)).2.1).length) c83, .agg (arrCells LastV.cells ((rsdo tA (lst mA) (l.getD kk dReq)).2.1))]) (by kernel_rfl) Tryd.call37 (same10_spec ((sdo tA mA (l.getD kk dReq)).2.1) ((rsdo tA (lst mA) (l.getD kk dReq)).2.1) (rsdo_tab hr.2.inv _) (by rw [sdo_tab hr.2.inv _]; decide) (fun w h => h.rows 0 rfl (lastF).size _) hs84) ?_
                rintro v88 w89 ⟨rfl, hs87⟩
                refine ⟨(opn (by kernel_rfl)), ?_⟩
                refine GoR.phaseK [(13, .gen []), (14, .gen [])] [95, 1, 2, 7, 9, 11, 12, 13] [] [(95, .bool (!(decide (((sdo tA mA (l.getD kk dReq)).2.1) = ((rsdo tA (lst mA) (l.getD kk dReq)).2.1))))), (1, .slice (some ⟨ab55, ao56, none⟩) l.length c), (2, .int .i64 client), (7, .pointer (some ⟨p21, 0, none⟩)), (9, .pointer (some ⟨b34, 0, none⟩)), (11, .pointer (some ⟨p39, 0, none⟩)), (12, .pointer (some ⟨b44, 0, none⟩)), (13, .int .i64 (kk : Nat))] (by kernel_rfl) rfl ak0 ?_
                refine GoR.done (GoQ.thn ?_)
                refine GoC.cond (t := !(decide (((sdo tA mA (l.getD kk dReq)).2.1) = ((rsdo tA (lst mA) (l.getD kk dReq)).2.1)))) (by kernel_rfl) (fun h90 => ?_) (fun h90 => ?_)
                · have h90n : (decide (((sdo tA mA (l.getD kk dReq)).2.1) = ((rsdo tA (lst mA) (l.getD kk dReq)).2.1))) = false := notT h90
                  exact absurd h90 (by rw [rsdo_lst hr.2.inv]; simp)
                · have h90n : (decide (((sdo tA mA (l.getD kk dReq)).2.1) = ((rsdo tA (lst mA) (l.getD kk dReq)).2.1))) = true := notF h90
                  refine GoC.skip (GoQ.blkN (GoQ.thn ?_))
                  refine GoC.regT [7, 7, 7] (.rd 0 (.rd 1 (.rd 2 .done))) (by kernel_rfl) (by kernel_rfl) ?_
                  refine GoR.phaseK [(0, .gen []), (1, .as_ (.int .i64 ((kk : Nat) + 1)) (.gen [])), (2, .gen [])] [13, 1, 2, 7, 9, 11, 12] [(1, [.prop (Value.int .i64 (IntKind.i64.wrap ((kk : Nat) + 1)) = Value.int .i64 ((kk : Nat) + 1))])] [(13, .int .i64 ((kk : Nat) + 1)), (1, .slice (some ⟨ab55, ao56, none⟩) l.length c), (2, .int .i64 client), (7, .pointer (some ⟨p21, 0, none⟩)), (9, .pointer (some ⟨b34, 0, none⟩)), (11, .pointer (some ⟨p39, 0, none⟩)), (12, .pointer (some ⟨b44, 0, none⟩))] (by kernel_rfl) rfl (ak (okp (i64ok (by omega) (by omega)) ok0) ak0) ?_
                  refine GoR.done ?_
                  have hs91 : St W ((Sl ad82 c83 41 3 LastV.cells ((sdo tA mA (l.getD kk dReq)).2.1)) :: (Cel b71 (RepV.cells ((rsdo tA (lst mA) (l.getD kk dReq)).1.1)) 34) :: (Cel b60 (RepV.cells ((sdo tA mA (l.getD kk dReq)).1.1)) 34) :: (Cel p21 (arrCells LastV.cells ((sdo tA mA (l.getD kk dReq)).2.1)) 86) :: (Cel p39 #[.map (some r40)] 89) :: (MapA Value.string Value.string r40 ((sdo tA mA (l.getD kk dReq)).2.2)) :: (Cel b34 (arrCells LastV.cells ((rsdo tA (lst mA) (l.getD kk dReq)).2.1)) 76) :: (Cel b44 #[.slice ad66 (((rsdo tA (lst mA) (l.getD kk dReq)).2.2).length) c67] 68) :: (Sl ad66 c67 61 2 ItemV.cells ((rsdo tA (lst mA) (l.getD kk dReq)).2.2)) :: (Base W) :: []) w89 := ((((((((((hs87.pull 9 rfl).pull 6 rfl).pull 6 rfl).pull 6 rfl).pull 9 rfl).pull 9 rfl).pull 7 rfl).pull 9 rfl).pull 9 rfl).pull 9 rfl)
                  have hs92 : St W ((Cel p21 (arrCells LastV.cells ((sdo tA mA (l.getD kk dReq)).2.1)) 86) :: (Cel p39 #[.map (some r40)] 89) :: (MapA Value.string Value.string r40 ((sdo tA mA (l.getD kk dReq)).2.2)) :: (Cel b34 (arrCells LastV.cells ((rsdo tA (lst mA) (l.getD kk dReq)).2.1)) 76) :: (Cel b44 #[.slice ad66 (((rsdo tA (lst mA) (l.getD kk dReq)).2.2).length) c67] 68) :: (Sl ad66 c67 61 2 ItemV.cells ((rsdo tA (lst mA) (l.getD kk dReq)).2.2)) :: (Base W) :: []) w89 := hs91.drop 3
                  rw [rsdo_lst hr.2.inv] at hs92
                  exact GoQ.back (kk + 1, ((sdo tA mA (l.getD kk dReq)).2.1), (sdo tA mA (l.getD kk dReq)).2.2, ad66, c67) [1, 2, 7, 9, 11, 12, 13] (by kernel_rfl) (by show l.length - (kk + 1) < l.length - kk; omega) ⟨⟨by omega, hr.2.step _⟩, hs92⟩
          · have h54' : ¬ (((kk : Nat) : Int) < (l.length : Nat)) := of_decide_eq_false h54
            refine GoC.exit (GoQ.skipC (GoQ.skipL (GoQ.hit (GoQ.thn (GoC.seq ?_)))))
            refine GoC.regT [7, 7, 7] (.rd 0 (.ef 1 (.ef 2 .done))) (by kernel_rfl) (by kernel_rfl) ?_
            refine GoR.phaseK [(0, .gen [])] [96, 2, 7, 9, 11, 12] [] [(96, .agg #[.int .u64 0, .int .i64 0, .string (⟨#[]⟩ : ByteArray)]), (2, .int .i64 client), (7, .pointer (some ⟨p21, 0, none⟩)), (9, .pointer (some ⟨b34, 0, none⟩)), (11, .pointer (some ⟨p39, 0, none⟩)), (12, .pointer (some ⟨b44, 0, none⟩))] (by kernel_rfl) rfl ak0 ?_
            refine GoR.alloc rfl rfl (by kernel_rfl) (z := .agg #[.int .u64 0, .int .i64 0, .string (⟨#[]⟩ : ByteArray)]) (by kernel_rfl) hs53 (cs := #[.int .u64 0, .int .i64 0, .string (⟨#[]⟩ : ByteArray)]) (by kernel_rfl) ?_
            intro b93 w94 hs95
            refine ⟨(opn (by kernel_rfl)), ?_⟩
            refine GoR.store rfl rfl (by kernel_rfl) (b := b93) (off := 0) (v := .agg #[.int .u64 0, .int .i64 0, .string (⟨#[]⟩ : ByteArray)]) (by kernel_rfl) (by kernel_rfl) (ti := Tryd.t41) (by kernel_rfl) hs95 0 rfl (by kernel_rfl) (by kernel_rfl) (Nat.le_of_ble_eq_true (by kernel_rfl)) (cs' := #[.int .u64 0, .int .i64 0, .string (⟨#[]⟩ : ByteArray)]) (L' := (Cel b93 #[.int .u64 0, .int .i64 0, .string (⟨#[]⟩ : ByteArray)] 41) :: (Cel p21 (arrCells LastV.cells tA) 86) :: (Cel p39 #[.map (some r40)] 89) :: (MapA Value.string Value.string r40 mA) :: (Cel b34 (arrCells LastV.cells tA) 76) :: (Cel b44 #[.slice adr ((lst mA).length) cr] 68) :: (Sl adr cr 61 2 ItemV.cells (lst mA)) :: (Base W) :: []) (by kernel_rfl) rfl ?_
            intro w96 hs97
            refine ⟨(opn (by kernel_rfl)), ?_⟩
            refine GoR.done (GoQ.thn (GoC.seq (GoC.seq ?_)))
            refine GoC.join (T := Unit) (E := fun _ => [(102, .bool ((decide ((client : Int) ≥ 1)) && (decide ((client : Int) ≤ 8)))), (18, .pointer (some ⟨b93, 0, none⟩)), (2, .int .i64 client), (7, .pointer (some ⟨p21, 0, none⟩)), (9, .pointer (some ⟨b34, 0, none⟩)), (11, .pointer (some ⟨p39, 0, none⟩)), (12, .pointer (some ⟨b44, 0, none⟩))]) (F := fun _ w => St W ((Cel b93 #[.int .u64 0, .int .i64 0, .string (⟨#[]⟩ : ByteArray)] 41) :: (Cel p21 (arrCells LastV.cells tA) 86) :: (Cel p39 #[.map (some r40)] 89) :: (MapA Value.string Value.string r40 mA) :: (Cel b34 (arrCells LastV.cells tA) 76) :: (Cel b44 #[.slice adr ((lst mA).length) cr] 68) :: (Sl adr cr 61 2 ItemV.cells (lst mA)) :: (Base W) :: []) w) ?_ ?_
            · refine GoC.regT [63, 63, 63, 63, 63, 63] (.rd 0 (.rd 1 (.rd 2 (.rd 3 (.rd 4 (.rd 5 .done)))))) (by kernel_rfl) (by kernel_rfl) ?_
              refine GoR.phaseK [(0, .gen []), (1, .gen []), (2, .gen [])] [99, 18, 2, 7, 9, 11, 12] [] [(99, .bool (decide ((client : Int) ≥ 1))), (18, .pointer (some ⟨b93, 0, none⟩)), (2, .int .i64 client), (7, .pointer (some ⟨p21, 0, none⟩)), (9, .pointer (some ⟨b34, 0, none⟩)), (11, .pointer (some ⟨p39, 0, none⟩)), (12, .pointer (some ⟨b44, 0, none⟩))] (by kernel_rfl) rfl ak0 ?_
              rcases Bool.eq_false_or_eq_true (decide ((client : Int) ≥ 1)) with h98 | h98
              · refine GoR.setB 99 true (by decide) (by kernel_rfl) h98 ?_
                have h98' : (client : Int) ≥ 1 := of_decide_eq_true h98
                refine GoR.phaseK [(3, .gen []), (4, .gen []), (5, .gen [])] [102, 18, 2, 7, 9, 11, 12] [] [(102, .bool (decide ((client : Int) ≤ 8))), (18, .pointer (some ⟨b93, 0, none⟩)), (2, .int .i64 client), (7, .pointer (some ⟨p21, 0, none⟩)), (9, .pointer (some ⟨b34, 0, none⟩)), (11, .pointer (some ⟨p39, 0, none⟩)), (12, .pointer (some ⟨b44, 0, none⟩))] (by kernel_rfl) rfl ak0 ?_
                refine GoR.done ?_
                refine GoQ.pick [102, 18, 2, 7, 9, 11, 12] (S' := [(102, .bool (decide ((client : Int) ≤ 8))), (18, .pointer (some ⟨b93, 0, none⟩)), (2, .int .i64 client), (7, .pointer (some ⟨p21, 0, none⟩)), (9, .pointer (some ⟨b34, 0, none⟩)), (11, .pointer (some ⟨p39, 0, none⟩)), (12, .pointer (some ⟨b44, 0, none⟩))]) (by kernel_rfl) ?_
                exact GoQ.meet1 () (by first | rfl | (simp only [h4, h4n, h98, Bool.not_true, Bool.not_false, Bool.true_or, Bool.false_or, Bool.true_and, Bool.false_and, Bool.or_true, Bool.or_false, Bool.and_true, Bool.and_false]; done) | (simp [h4, h4n, h98]; done)) hs97
              · refine GoR.setB 99 false (by decide) (by kernel_rfl) h98 ?_
                have h98' : ¬ ((client : Int) ≥ 1) := of_decide_eq_false h98
                refine GoR.phaseK [(3, .gen []), (4, .gen []), (5, .gen [])] [102, 18, 2, 7, 9, 11, 12] [] [(102, .bool false), (18, .pointer (some ⟨b93, 0, none⟩)), (2, .int .i64 client), (7, .pointer (some ⟨p21, 0, none⟩)), (9, .pointer (some ⟨b34, 0, none⟩)), (11, .pointer (some ⟨p39, 0, none⟩)), (12, .pointer (some ⟨b44, 0, none⟩))] (by kernel_rfl) rfl ak0 ?_
                refine GoR.done ?_
                refine GoQ.pick [102, 18, 2, 7, 9, 11, 12] (S' := [(102, .bool false), (18, .pointer (some ⟨b93, 0, none⟩)), (2, .int .i64 client), (7, .pointer (some ⟨p21, 0, none⟩)), (9, .pointer (some ⟨b34, 0, none⟩)), (11, .pointer (some ⟨p39, 0, none⟩)), (12, .pointer (some ⟨b44, 0, none⟩))]) (by kernel_rfl) ?_
                exact GoQ.meet1 () (by first | rfl | (simp only [h4, h4n, h98, Bool.not_true, Bool.not_false, Bool.true_or, Bool.false_or, Bool.true_and, Bool.false_and, Bool.or_true, Bool.or_false, Bool.and_true, Bool.and_false]; done) | (simp [h4, h4n, h98]; done)) hs97
            intro _ w99 hs100
            refine GoQ.thn ?_
            refine GoC.cond (t := (decide ((client : Int) ≥ 1)) && (decide ((client : Int) ≤ 8))) (by kernel_rfl) (fun h101 => ?_) (fun h101 => ?_)
            · have h101a : (decide ((client : Int) ≥ 1)) = true := (Bool.and_eq_true_iff.1 h101).1
              have h101a' : (client : Int) ≥ 1 := of_decide_eq_true h101a
              have h101b : (decide ((client : Int) ≤ 8)) = true := (Bool.and_eq_true_iff.1 h101).2
              have h101b' : (client : Int) ≤ 8 := of_decide_eq_true h101b
              refine GoC.regT [31, 31, 31, 31, 31] (.rd 0 (.rd 1 (.rd 2 (.rd 3 (.ef 4 .done))))) (by kernel_rfl) (by kernel_rfl) ?_
              refine GoR.phaseK [(0, .gen []), (1, .as_ (.int .i64 (client - 1)) (.gen [])), (2, .as_ (.pointer (some ⟨b34, 0 + ((Int.toNat (client - 1)) * 3), none⟩)) .at_), (3, .agg (LastV.cells (tA.getD (Int.toNat (client - 1)) dLast)))] [106, 18, 2, 7, 11, 12] [(1, [.prop (Value.int .i64 (IntKind.i64.wrap (client - 1)) = Value.int .i64 (client - 1))]), (2, [.prop (0 ≤ ((client - 1) : Int) ∧ ((client - 1) : Int) < (8 : Int)), .prop (Value.pointer (some (Addr.add ⟨b34, 0, none⟩ (Int.toNat (client - 1) * 3))) = Value.pointer (some ⟨b34, 0 + ((Int.toNat (client - 1)) * 3), none⟩))]), (3, [.prop (Array.size (LastV.cells (tA.getD (Int.toNat (client - 1)) dLast)) = 3), .cells ⟨b34, 0 + ((Int.toNat (client - 1)) * 3), none⟩ (LastV.cells (tA.getD (Int.toNat (client - 1)) dLast))])] [(106, .agg (LastV.cells (tA.getD (Int.toNat (client - 1)) dLast))), (18, .pointer (some ⟨b93, 0, none⟩)), (2, .int .i64 client), (7, .pointer (some ⟨p21, 0, none⟩)), (11, .pointer (some ⟨p39, 0, none⟩)), (12, .pointer (some ⟨b44, 0, none⟩))] (by kernel_rfl) rfl (ak (okp (i64ok (by omega) (by omega)) ok0) (ak (okp (by omega) (okp (ptrAdd _ _ _) ok0)) (ak (okp (by kernel_rfl) (oka (RowsAt.all0 (arr_rows hs100 4 rfl (lastF).size dLast) (by first | omega | (simp only [List.length_set]; omega)) (Nat.le_of_ble_eq_true (by kernel_rfl)) (by kernel_rfl)) ok0)) ak0))) ?_
              refine GoR.store rfl rfl (by kernel_rfl) (b := b93) (off := 0) (v := .agg (LastV.cells (tA.getD (Int.toNat (client - 1)) dLast))) (by kernel_rfl) (by kernel_rfl) (ti := Tryd.t41) (by kernel_rfl) hs100 0 rfl (by kernel_rfl) (by kernel_rfl) (Nat.le_of_ble_eq_true (by kernel_rfl)) (cs' := LastV.cells (tA.getD (Int.toNat (client - 1)) dLast)) (L' := (Cel b93 (LastV.cells (tA.getD (Int.toNat (client - 1)) dLast)) 41) :: (Cel p21 (arrCells LastV.cells tA) 86) :: (Cel p39 #[.map (some r40)] 89) :: (MapA Value.string Value.string r40 mA) :: (Cel b34 (arrCells LastV.cells tA) 76) :: (Cel b44 #[.slice adr ((lst mA).length) cr] 68) :: (Sl adr cr 61 2 ItemV.cells (lst mA)) :: (Base W) :: []) (by kernel_rfl) rfl ?_
              intro w102 hs103
              refine ⟨(opn (by kernel_rfl)), ?_⟩
              refine GoR.done (GoQ.thn (GoC.seq ?_))
              refine GoC.regD [0, 0, 3, 0, 15, 31, 63, 127, 63, 319, 831, 1855, 4095, 8191, 16383, 32767, 65535, 131071] (.rd 0 (.rd 1 (.rd 3 (.ef 2 (.rd 4 (.rd 5 (.rd 6 (.rd 8 (.rd 9 (.rd 10 (.rd 11 (.ef 7 (.ef 12 (.rd 13 (.rd 14 (.ef 15 (.rd 16 (.rd 17 .done)))))))))))))))))) (by kernel_rfl) (by kernel_rfl) noPan_body (by kernel_rfl) hs103 ?_
              intro w104 hs105 hw106
              refine GoR.phaseK [(0, .gen []), (1, .gen []), (3, .agg (LastV.cells (tA.getD (Int.toNat (client - 1)) dLast)))] [110, 108, 107, 11, 12] [(3, [.prop (Array.size (LastV.cells (tA.getD (Int.toNat (client - 1)) dLast)) = 3), .cells ⟨b93, 0, none⟩ (LastV.cells (tA.getD (Int.toNat (client - 1)) dLast))])] [(110, .agg (LastV.cells (tA.getD (Int.toNat (client - 1)) dLast))), (108, .int .i64 client), (107, .pointer (some ⟨p21, 0, none⟩)), (11, .pointer (some ⟨p39, 0, none⟩)), (12, .pointer (some ⟨b44, 0, none⟩))] (by kernel_rfl) rfl (ak (okp (by kernel_rfl) (oka (hs105.cells 0 0 rfl (by kernel_rfl)) ok0)) ak0) ?_
              have hs107 : St W ((Cel p21 (arrCells LastV.cells tA) 86) :: (Cel b93 (LastV.cells (tA.getD (Int.toNat (client - 1)) dLast)) 41) :: (Cel p39 #[.map (some r40)] 89) :: (MapA Value.string Value.string r40 mA) :: (Cel b34 (arrCells LastV.cells tA) 76) :: (Cel b44 #[.slice adr ((lst mA).length) cr] 68) :: (Sl adr cr 61 2 ItemV.cells (lst mA)) :: (Base W) :: []) w104 := (hs105.pull 1 rfl)
              refine GoR.call rfl rfl (by kernel_rfl) (f := 18) (args := #[.pointer (some ⟨p21, 0, none⟩), .int .i64 client]) (by kernel_rfl) Tryd.call18 (tlast_spec tA client hr.2.inv.len hs107) ?_
              rintro v109 w110 ⟨rfl, hs108⟩
              refine ⟨(opl (n := [.prop (Array.size (LastV.cells (tA.getD (Int.toNat (client - 1)) dLast)) = 3), .cells ⟨b93, 0, none⟩ (LastV.cells (tA.getD (Int.toNat (client - 1)) dLast))]) (by kernel_rfl) (okp (by kernel_rfl) (oka (hs108.cells 1 0 rfl (by kernel_rfl)) ok0))), ?_⟩
              refine GoR.eqAgg rfl (by kernel_rfl) (b := true) (t := 41) (xs := LastV.cells (tlast tA client)) (ys := LastV.cells (tA.getD (Int.toNat (client - 1)) dLast)) (m := 3) (by kernel_rfl) (by kernel_rfl) (by decide) (by kernel_rfl) (r := decide (tlast tA client = (tA.getD (Int.toNat (client - 1)) dLast))) (aggEq  (lastEq (tlast tA client) (tA.getD (Int.toNat (client - 1)) dLast))) ?_
              refine GoR.phaseK [(5, .gen [])] [112, 11, 12] [] [(112, .bool (decide (tlast tA client = (tA.getD (Int.toNat (client - 1)) dLast)))), (11, .pointer (some ⟨p39, 0, none⟩)), (12, .pointer (some ⟨b44, 0, none⟩))] (by kernel_rfl) rfl ak0 ?_
              rcases Bool.eq_false_or_eq_true (decide (tlast tA client = (tA.getD (Int.toNat (client - 1)) dLast))) with h111 | h111
              · refine GoR.setB 112 true (by decide) (by kernel_rfl) h111 ?_
                have h111' : tlast tA client = (tA.getD (Int.toNat (client - 1)) dLast) := of_decide_eq_true h111
                refine GoR.phaseK [(6, .gen []), (8, .gen []), (9, .gen []), (10, .gen []), (11, .gen [.slice adr ((lst mA).length) cr])] [118, 113, 112] [(11, [.cell ⟨b44, 0, none⟩ (.slice adr ((lst mA).length) cr)])] [(118, .slice adr ((lst mA).length) cr), (113, .pointer (some ⟨p39, 0, none⟩)), (112, .bool true)] (by kernel_rfl) rfl (ak (okc (hs108.cell 5 rfl (by kernel_rfl)) ok0) ak0) ?_
                have hs112 : St W ((Cel p39 #[.map (some r40)] 89) :: (MapA Value.string Value.string r40 mA) :: (Cel p21 (arrCells LastV.cells tA) 86) :: (Cel b93 (LastV.cells (tA.getD (Int.toNat (client - 1)) dLast)) 41) :: (Cel b34 (arrCells LastV.cells tA) 76) :: (Cel b44 #[.slice adr ((lst mA).length) cr] 68) :: (Sl adr cr 61 2 ItemV.cells (lst mA)) :: (Base W) :: []) w110 := ((hs108.pull 3 rfl).pull 3 rfl)
                refine GoR.call rfl rfl (by kernel_rfl) (f := 23) (args := #[.pointer (some ⟨p39, 0, none⟩)]) (by kernel_rfl) Tryd.call23 (list_spec mA (Nat.le_trans hr.2.inv.inv.len (by decide)) hs112) ?_
                rintro v116 w117 ⟨ad113, c114, rfl, hs115⟩
                refine ⟨(opl (n := [.cell ⟨b44, 0, none⟩ (.slice adr ((lst mA).length) cr)]) (by kernel_rfl) (okc (hs115.cell 6 rfl (by kernel_rfl)) ok0)), ?_⟩
                refine GoR.call rfl rfl (by kernel_rfl) (f := 25) (args := #[.slice ad113 ((lst mA).length) c114, .slice adr ((lst mA).length) cr]) (by kernel_rfl) Tryd.call25 (same_spec (lst mA) (lst mA) (by rw [lst_length]; exact Nat.le_trans hr.2.inv.inv.len (by decide)) (by rw [lst_length]; exact Nat.le_trans hr.2.inv.inv.len (by decide)) (fun w h => h.rows 0 rfl (itemF).size _) (fun w h => h.rows 7 rfl (itemF).size _) hs115) ?_
                rintro v119 w120 ⟨rfl, hs118⟩
                refine ⟨(opn (by kernel_rfl)), ?_⟩
                refine GoR.phaseK [(13, .gen []), (14, .gen [])] [121] [] [(121, .bool (decide ((lst mA) = (lst mA))))] (by kernel_rfl) rfl ak0 ?_
                rcases Bool.eq_false_or_eq_true (decide ((lst mA) = (lst mA))) with h121 | h121
                · refine GoR.setB 121 true (by decide) (by kernel_rfl) h121 ?_
                  have h121' : (lst mA) = (lst mA) := of_decide_eq_true h121
                  refine GoR.call rfl rfl (by kernel_rfl) (f := 14) (args := #[]) (by kernel_rfl) Tryd.call14 (works10_spec (fun w h => hLW.base h 8 rfl) hs118) ?_
                  rintro v123 w124 ⟨rfl, hs122⟩
                  refine ⟨(opn (by kernel_rfl)), ?_⟩
                  refine GoR.phaseK [(16, .gen []), (17, .gen [])] [6] [] [(6, .bool true)] (by kernel_rfl) rfl ak0 ?_
                  refine GoR.done (GoQ.thn (GoC.ret ?_))
                  refine GoQ.done (.inl rfl) (v := .bool true) (fun a hf => results1 rfl (by kernel_rfl) a hf) ?_
                  exact ⟨rfl, hs122.below 8 rfl⟩
                · refine GoR.setB 121 false (by decide) (by kernel_rfl) h121 ?_
                  have h121' : ¬ ((lst mA) = (lst mA)) := of_decide_eq_false h121
                  exact absurd h121 (by simp)
              · refine GoR.setB 112 false (by decide) (by kernel_rfl) h111 ?_
                have h111' : ¬ (tlast tA client = (tA.getD (Int.toNat (client - 1)) dLast)) := of_decide_eq_false h111
                exact absurd h111 (by first | (rw [tlast_in (by omega) (by omega)]; simp; done) | (rw [tlast_out hcl]; simp; done))
            · have hcl : ¬ (1 ≤ client ∧ client ≤ 8) := fun hc => absurd ((Bool.and_eq_true_iff.2 ⟨decide_eq_true hc.1, decide_eq_true hc.2⟩).symm.trans h101) (by decide)
              refine GoC.skip (GoQ.thn (GoC.seq ?_))
              refine GoC.regD [0, 0, 3, 0, 15, 31, 63, 127, 63, 319, 831, 1855, 4095, 8191, 16383, 32767, 65535, 131071] (.rd 0 (.rd 1 (.rd 3 (.ef 2 (.rd 4 (.rd 5 (.rd 6 (.rd 8 (.rd 9 (.rd 10 (.rd 11 (.ef 7 (.ef 12 (.rd 13 (.rd 14 (.ef 15 (.rd 16 (.rd 17 .done)))))))))))))))))) (by kernel_rfl) (by kernel_rfl) noPan_body (by kernel_rfl) hs100 ?_
              intro w125 hs126 hw127
              refine GoR.phaseK [(0, .gen []), (1, .gen []), (3, .agg #[.int .u64 0, .int .i64 0, .string (⟨#[]⟩ : ByteArray)])] [110, 108, 107, 11, 12] [(3, [.prop (Array.size (#[.int .u64 0, .int .i64 0, .string (⟨#[]⟩ : ByteArray)] : Array Value) = 3), .cells ⟨b93, 0, none⟩ #[.int .u64 0, .int .i64 0, .string (⟨#[]⟩ : ByteArray)]])] [(110, .agg #[.int .u64 0, .int .i64 0, .string (⟨#[]⟩ : ByteArray)]), (108, .int .i64 client), (107, .pointer (some ⟨p21, 0, none⟩)), (11, .pointer (some ⟨p39, 0, none⟩)), (12, .pointer (some ⟨b44, 0, none⟩))] (by kernel_rfl) rfl (ak (okp (by kernel_rfl) (oka (hs126.cells 0 0 rfl (by kernel_rfl)) ok0)) ak0) ?_
              have hs128 : St W ((Cel p21 (arrCells LastV.cells tA) 86) :: (Cel b93 #[.int .u64 0, .int .i64 0, .string (⟨#[]⟩ : ByteArray)] 41) :: (Cel p39 #[.map (some r40)] 89) :: (MapA Value.string Value.string r40 mA) :: (Cel b34 (arrCells LastV.cells tA) 76) :: (Cel b44 #[.slice adr ((lst mA).length) cr] 68) :: (Sl adr cr 61 2 ItemV.cells (lst mA)) :: (Base W) :: []) w125 := (hs126.pull 1 rfl)
              refine GoR.call rfl rfl (by kernel_rfl) (f := 18) (args := #[.pointer (some ⟨p21, 0, none⟩), .int .i64 client]) (by kernel_rfl) Tryd.call18 (tlast_spec tA client hr.2.inv.len hs128) ?_
              rintro v130 w131 ⟨rfl, hs129⟩
              refine ⟨(opl (n := [.prop (Array.size (#[.int .u64 0, .int .i64 0, .string (⟨#[]⟩ : ByteArray)] : Array Value) = 3), .cells ⟨b93, 0, none⟩ #[.int .u64 0, .int .i64 0, .string (⟨#[]⟩ : ByteArray)]]) (by kernel_rfl) (okp (by kernel_rfl) (oka (hs129.cells 1 0 rfl (by kernel_rfl)) ok0))), ?_⟩
              refine GoR.eqAgg rfl (by kernel_rfl) (b := true) (t := 41) (xs := LastV.cells (tlast tA client)) (ys := LastV.cells (⟨0, ⟨0, (⟨#[]⟩ : ByteArray)⟩⟩ : LastV)) (m := 3) (by kernel_rfl) (by kernel_rfl) (by decide) (by kernel_rfl) (r := decide (tlast tA client = (⟨0, ⟨0, (⟨#[]⟩ : ByteArray)⟩⟩ : LastV))) (aggEq  (lastEq (tlast tA client) (⟨0, ⟨0, (⟨#[]⟩ : ByteArray)⟩⟩ : LastV))) ?_
              refine GoR.phaseK [(5, .gen [])] [112, 11, 12] [] [(112, .bool (decide (tlast tA client = (⟨0, ⟨0, (⟨#[]⟩ : ByteArray)⟩⟩ : LastV)))), (11, .pointer (some ⟨p39, 0, none⟩)), (12, .pointer (some ⟨b44, 0, none⟩))] (by kernel_rfl) rfl ak0 ?_
              rcases Bool.eq_false_or_eq_true (decide (tlast tA client = (⟨0, ⟨0, (⟨#[]⟩ : ByteArray)⟩⟩ : LastV))) with h132 | h132
              · refine GoR.setB 112 true (by decide) (by kernel_rfl) h132 ?_
                have h132' : tlast tA client = (⟨0, ⟨0, (⟨#[]⟩ : ByteArray)⟩⟩ : LastV) := of_decide_eq_true h132
                refine GoR.phaseK [(6, .gen []), (8, .gen []), (9, .gen []), (10, .gen []), (11, .gen [.slice adr ((lst mA).length) cr])] [118, 113, 112] [(11, [.cell ⟨b44, 0, none⟩ (.slice adr ((lst mA).length) cr)])] [(118, .slice adr ((lst mA).length) cr), (113, .pointer (some ⟨p39, 0, none⟩)), (112, .bool true)] (by kernel_rfl) rfl (ak (okc (hs129.cell 5 rfl (by kernel_rfl)) ok0) ak0) ?_
                have hs133 : St W ((Cel p39 #[.map (some r40)] 89) :: (MapA Value.string Value.string r40 mA) :: (Cel p21 (arrCells LastV.cells tA) 86) :: (Cel b93 #[.int .u64 0, .int .i64 0, .string (⟨#[]⟩ : ByteArray)] 41) :: (Cel b34 (arrCells LastV.cells tA) 76) :: (Cel b44 #[.slice adr ((lst mA).length) cr] 68) :: (Sl adr cr 61 2 ItemV.cells (lst mA)) :: (Base W) :: []) w131 := ((hs129.pull 3 rfl).pull 3 rfl)
                refine GoR.call rfl rfl (by kernel_rfl) (f := 23) (args := #[.pointer (some ⟨p39, 0, none⟩)]) (by kernel_rfl) Tryd.call23 (list_spec mA (Nat.le_trans hr.2.inv.inv.len (by decide)) hs133) ?_
                rintro v137 w138 ⟨ad134, c135, rfl, hs136⟩
                refine ⟨(opl (n := [.cell ⟨b44, 0, none⟩ (.slice adr ((lst mA).length) cr)]) (by kernel_rfl) (okc (hs136.cell 6 rfl (by kernel_rfl)) ok0)), ?_⟩
                refine GoR.call rfl rfl (by kernel_rfl) (f := 25) (args := #[.slice ad134 ((lst mA).length) c135, .slice adr ((lst mA).length) cr]) (by kernel_rfl) Tryd.call25 (same_spec (lst mA) (lst mA) (by rw [lst_length]; exact Nat.le_trans hr.2.inv.inv.len (by decide)) (by rw [lst_length]; exact Nat.le_trans hr.2.inv.inv.len (by decide)) (fun w h => h.rows 0 rfl (itemF).size _) (fun w h => h.rows 7 rfl (itemF).size _) hs136) ?_
                rintro v140 w141 ⟨rfl, hs139⟩
                refine ⟨(opn (by kernel_rfl)), ?_⟩
                refine GoR.phaseK [(13, .gen []), (14, .gen [])] [121] [] [(121, .bool (decide ((lst mA) = (lst mA))))] (by kernel_rfl) rfl ak0 ?_
                rcases Bool.eq_false_or_eq_true (decide ((lst mA) = (lst mA))) with h142 | h142
                · refine GoR.setB 121 true (by decide) (by kernel_rfl) h142 ?_
                  have h142' : (lst mA) = (lst mA) := of_decide_eq_true h142
                  refine GoR.call rfl rfl (by kernel_rfl) (f := 14) (args := #[]) (by kernel_rfl) Tryd.call14 (works10_spec (fun w h => hLW.base h 8 rfl) hs139) ?_
                  rintro v144 w145 ⟨rfl, hs143⟩
                  refine ⟨(opn (by kernel_rfl)), ?_⟩
                  refine GoR.phaseK [(16, .gen []), (17, .gen [])] [6] [] [(6, .bool true)] (by kernel_rfl) rfl ak0 ?_
                  refine GoR.done (GoQ.thn (GoC.ret ?_))
                  refine GoQ.done (.inl rfl) (v := .bool true) (fun a hf => results1 rfl (by kernel_rfl) a hf) ?_
                  exact ⟨rfl, hs143.below 8 rfl⟩
                · refine GoR.setB 121 false (by decide) (by kernel_rfl) h142 ?_
                  have h142' : ¬ ((lst mA) = (lst mA)) := of_decide_eq_false h142
                  exact absurd h142 (by simp)
              · refine GoR.setB 112 false (by decide) (by kernel_rfl) h132 ?_
                have h132' : ¬ (tlast tA client = (⟨0, ⟨0, (⟨#[]⟩ : ByteArray)⟩⟩ : LastV)) := of_decide_eq_false h132
                exact absurd h132 (by first | (rw [tlast_in (by omega) (by omega)]; simp; done) | (rw [tlast_out hcl]; simp; done))
        · exact absurd (h22.symm.trans h30) (by decide)
      · refine ⟨(opn (by kernel_rfl)), ?_⟩
        refine GoR.phaseK [(4, .gen []), (5, .gen []), (6, .gen []), (7, .gen []), (8, .gen [])] [8, 7, 6, 0, 1, 2] [] [(8, .int .i64 1), (7, .pointer none), (6, .bool false), (0, .slice adf f.length cf), (1, .slice ad l.length c), (2, .int .i64 client)] (by kernel_rfl) rfl ak0 ?_
        refine GoR.done (GoQ.thn (GoC.seq ?_))
        refine GoC.regT [255, 255, 255, 255, 255, 255, 255, 255] (.rd 0 (.ef 1 (.rd 2 (.rd 3 (.rd 4 (.ef 5 (.ef 6 (.rd 7 .done)))))))) (by kernel_rfl) (by kernel_rfl) ?_
        refine GoR.phaseK [(0, .gen [])] [36, 8, 7, 6, 1, 2] [] [(36, .slice adf f.length cf), (8, .int .i64 1), (7, .pointer none), (6, .bool false), (1, .slice ad l.length c), (2, .int .i64 client)] (by kernel_rfl) rfl ak0 ?_
        refine GoR.call rfl rfl (by kernel_rfl) (f := 35) (args := #[.slice adf f.length cf]) (by kernel_rfl) Tryd.call35 (rtof_spec f (by omega) (fun w h => rw1.base (fun k _ => (lastF).size _) h 1 rfl) hs25) ?_
        rintro v150 w151 (⟨rfl, h146, hs147⟩ | ⟨rfl, h148, hs149⟩)
        · exact absurd (h24.symm.trans h146) (by decide)
        · refine ⟨(opn (by kernel_rfl)), ?_⟩
          refine GoR.phaseK [(2, .gen []), (3, .gen []), (4, .gen [])] [39, 38, 8, 7, 6, 1, 2] [] [(39, .int .i64 1), (38, .agg (arrCells LastV.cells (List.replicate 8 dLast))), (8, .int .i64 1), (7, .pointer none), (6, .bool false), (1, .slice ad l.length c), (2, .int .i64 client)] (by kernel_rfl) rfl ak0 ?_
          refine GoR.alloc rfl rfl (by kernel_rfl) (z := .agg #[.int .u64 0, .int .i64 0, .string (⟨#[]⟩ : ByteArray), .int .u64 0, .int .i64 0, .string (⟨#[]⟩ : ByteArray), .int .u64 0, .int .i64 0, .string (⟨#[]⟩ : ByteArray), .int .u64 0, .int .i64 0, .string (⟨#[]⟩ : ByteArray), .int .u64 0, .int .i64 0, .string (⟨#[]⟩ : ByteArray), .int .u64 0, .int .i64 0, .string (⟨#[]⟩ : ByteArray), .int .u64 0, .int .i64 0, .string (⟨#[]⟩ : ByteArray), .int .u64 0, .int .i64 0, .string (⟨#[]⟩ : ByteArray)]) (by kernel_rfl) hs149 (cs := #[.int .u64 0, .int .i64 0, .string (⟨#[]⟩ : ByteArray), .int .u64 0, .int .i64 0, .string (⟨#[]⟩ : ByteArray), .int .u64 0, .int .i64 0, .string (⟨#[]⟩ : ByteArray), .int .u64 0, .int .i64 0, .string (⟨#[]⟩ : ByteArray), .int .u64 0, .int .i64 0, .string (⟨#[]⟩ : ByteArray), .int .u64 0, .int .i64 0, .string (⟨#[]⟩ : ByteArray), .int .u64 0, .int .i64 0, .string (⟨#[]⟩ : ByteArray), .int .u64 0, .int .i64 0, .string (⟨#[]⟩ : ByteArray)]) (by kernel_rfl) ?_
          intro b152 w153 hs154
          refine ⟨(opn (by kernel_rfl)), ?_⟩
          refine GoR.store rfl rfl (by kernel_rfl) (b := b152) (off := 0) (v := .agg (arrCells LastV.cells (List.replicate 8 dLast))) (by kernel_rfl) (by kernel_rfl) (ti := Tryd.t76) (by kernel_rfl) hs154 0 rfl (arrvCells lastF (show ((List.replicate 8 dLast)).length = 8 from (by first | assumption | omega | simp)) (by kernel_rfl)) (arrvOne lastF) (arrvRoom lastF (show ((List.replicate 8 dLast)).length = 8 from (by first | assumption | omega | simp)) (by kernel_rfl)) (cs' := arrCells LastV.cells (List.replicate 8 dLast)) (L' := (Cel b152 (arrCells LastV.cells (List.replicate 8 dLast)) 76) :: (Sl ad19 c20 41 3 LastV.cells f) :: (Base W) :: []) (arrvPut lastF (show ((List.replicate 8 dLast)).length = 8 from (by first | assumption | omega | simp)) (by kernel_rfl)) rfl ?_
          intro w155 hs156
          refine ⟨(opn (by kernel_rfl)), ?_⟩
          refine GoR.phaseK [(7, .gen [])] [10, 9, 8, 7, 6, 1, 2] [] [(10, .int .i64 1), (9, .pointer (some ⟨b152, 0, none⟩)), (8, .int .i64 1), (7, .pointer none), (6, .bool false), (1, .slice ad l.length c), (2, .int .i64 client)] (by kernel_rfl) rfl ak0 ?_
          refine GoR.done (GoQ.thn (GoC.seq (GoC.seq ?_)))
          refine GoC.regT [1023, 1023, 1023, 1023, 1023, 1023, 1023, 1023, 1023, 1023] (.rd 0 (.rd 1 (.rd 2 (.rd 3 (.rd 4 (.rd 5 (.rd 6 (.rd 7 (.rd 8 (.rd 9 .done)))))))))) (by kernel_rfl) (by kernel_rfl) ?_
          refine GoR.phaseK [(0, .gen []), (1, .gen []), (2, .gen []), (3, .gen []), (4, .gen []), (5, .gen []), (6, .gen []), (7, .gen []), (8, .gen []), (9, .gen [])] [49, 10, 9, 7, 6, 1, 2] [] [(49, .bool false), (10, .int .i64 1), (9, .pointer (some ⟨b152, 0, none⟩)), (7, .pointer none), (6, .bool false), (1, .slice ad l.length c), (2, .int .i64 client)] (by kernel_rfl) rfl ak0 ?_
          refine GoR.done (GoQ.thn (GoC.condF (by kernel_rfl) (GoC.skip (GoQ.thn (GoC.seq (GoC.seq ?_))))))
          refine GoC.regT [3, 3] (.rd 0 (.rd 1 .done)) (by kernel_rfl) (by kernel_rfl) ?_
          refine GoR.phaseK [(0, .gen []), (1, .gen [])] [51, 9, 7, 6, 1, 2] [] [(51, .bool true), (9, .pointer (some ⟨b152, 0, none⟩)), (7, .pointer none), (6, .bool false), (1, .slice ad l.length c), (2, .int .i64 client)] (by kernel_rfl) rfl ak0 ?_
          refine GoR.done (GoQ.thn (GoC.condT (by kernel_rfl) ?_))
          refine GoC.regT [3, 3] (.ef 0 (.rd 1 .done)) (by kernel_rfl) (by kernel_rfl) ?_
          refine GoR.call rfl rfl (by kernel_rfl) (f := 17) (args := #[]) (by kernel_rfl) Tryd.call17 (sesNew_spec hs156) ?_
          rintro v159 w160 ⟨p157, rfl, hs158⟩
          refine ⟨(opn (by kernel_rfl)), ?_⟩
          refine GoR.phaseK [(1, .gen [])] [7, 9, 6, 1, 2] [] [(7, .pointer (some ⟨p157, 0, none⟩)), (9, .pointer (some ⟨b152, 0, none⟩)), (6, .bool false), (1, .slice ad l.length c), (2, .int .i64 client)] (by kernel_rfl) rfl ak0 ?_
          refine GoR.done (GoQ.thn (GoC.seq ?_))
          refine GoC.regT [3, 3] (.ef 0 (.rd 1 .done)) (by kernel_rfl) (by kernel_rfl) ?_
          refine GoR.call rfl rfl (by kernel_rfl) (f := 16) (args := #[]) (by kernel_rfl) Tryd.call16 (new_spec hs158) ?_
          rintro v164 w165 ⟨p161, r162, rfl, hs163⟩
          refine ⟨(opn (by kernel_rfl)), ?_⟩
          refine GoR.phaseK [(1, .gen [])] [11, 7, 9, 6, 1, 2] [] [(11, .pointer (some ⟨p161, 0, none⟩)), (7, .pointer (some ⟨p157, 0, none⟩)), (9, .pointer (some ⟨b152, 0, none⟩)), (6, .bool false), (1, .slice ad l.length c), (2, .int .i64 client)] (by kernel_rfl) rfl ak0 ?_
          refine GoR.done (GoQ.thn (GoC.seq ?_))
          refine GoC.regT [7, 7, 7] (.rd 0 (.ef 1 (.rd 2 .done))) (by kernel_rfl) (by kernel_rfl) ?_
          refine GoR.phaseK [(0, .gen [])] [54, 11, 7, 9, 6, 1, 2] [] [(54, .agg #[.slice none 0 0]), (11, .pointer (some ⟨p161, 0, none⟩)), (7, .pointer (some ⟨p157, 0, none⟩)), (9, .pointer (some ⟨b152, 0, none⟩)), (6, .bool false), (1, .slice ad l.length c), (2, .int .i64 client)] (by kernel_rfl) rfl ak0 ?_
          refine GoR.box rfl rfl (by kernel_rfl) (v := .agg #[.slice none 0 0]) (by kernel_rfl) hs163 (cs := #[.slice none 0 0]) (by kernel_rfl) ?_
          intro b166 w167 hs168
          refine ⟨(opn (by kernel_rfl)), ?_⟩
          refine GoR.phaseK [(2, .gen [])] [12, 11, 7, 9, 6, 1, 2] [] [(12, .pointer (some ⟨b166, 0, none⟩)), (11, .pointer (some ⟨p161, 0, none⟩)), (7, .pointer (some ⟨p157, 0, none⟩)), (9, .pointer (some ⟨b152, 0, none⟩)), (6, .bool false), (1, .slice ad l.length c), (2, .int .i64 client)] (by kernel_rfl) rfl ak0 ?_
          refine GoR.done (GoQ.thn (GoC.seq (GoC.seq ?_)))
          refine GoC.regT [1] (.rd 0 .done) (by kernel_rfl) (by kernel_rfl) ?_
          refine GoR.phaseK [(0, .gen [])] [13, 12, 11, 7, 9, 6, 1, 2] [] [(13, .int .i64 0), (12, .pointer (some ⟨b166, 0, none⟩)), (11, .pointer (some ⟨p161, 0, none⟩)), (7, .pointer (some ⟨p157, 0, none⟩)), (9, .pointer (some ⟨b152, 0, none⟩)), (6, .bool false), (1, .slice ad l.length c), (2, .int .i64 client)] (by kernel_rfl) rfl ak0 ?_
          refine GoR.done (GoQ.thn (GoC.block ?_))
          have hs169 : St W ((Sl ad19 c20 41 3 LastV.cells f) :: (Cel p157 (arrCells LastV.cells (List.replicate 8 dLast)) 86) :: (Cel p161 #[.map (some r162)] 89) :: (MapA Value.string Value.string r162 ([] : List (ByteArray × ByteArray))) :: (Cel b152 (arrCells LastV.cells (List.replicate 8 dLast)) 76) :: (Cel b166 #[.slice none 0 0] 68) :: (Base W) :: []) w167 := (((((((hs168.pull 6 rfl).pull 1 rfl).pull 5 rfl).pull 4 rfl).pull 4 rfl).pull 5 rfl).pull 6 rfl)
          have hs170 : St W ((Cel p157 (arrCells LastV.cells (List.replicate 8 dLast)) 86) :: (Cel p161 #[.map (some r162)] 89) :: (MapA Value.string Value.string r162 ([] : List (ByteArray × ByteArray))) :: (Cel b152 (arrCells LastV.cells (List.replicate 8 dLast)) 76) :: (Cel b166 #[.slice none 0 0] 68) :: (Base W) :: []) w167 := hs169.drop 1
          have hs171 : St W ((Sl none 0 61 2 ItemV.cells (lst [])) :: (Cel p157 (arrCells LastV.cells (List.replicate 8 dLast)) 86) :: (Cel p161 #[.map (some r162)] 89) :: (MapA Value.string Value.string r162 ([] : List (ByteArray × ByteArray))) :: (Cel b152 (arrCells LastV.cells (List.replicate 8 dLast)) 76) :: (Cel b166 #[.slice none ((lst []).length) 0] 68) :: (Base W) :: []) w167 := by rw [lst_nil10]; exact hs170.slNil 61 2 ItemV.cells
          have hs172 : St W ((Cel p157 (arrCells LastV.cells (List.replicate 8 dLast)) 86) :: (Cel p161 #[.map (some r162)] 89) :: (MapA Value.string Value.string r162 ([] : List (ByteArray × ByteArray))) :: (Cel b152 (arrCells LastV.cells (List.replicate 8 dLast)) 76) :: (Cel b166 #[.slice none ((lst []).length) 0] 68) :: (Sl none 0 61 2 ItemV.cells (lst [])) :: (Base W) :: []) w167 := (((((((hs171.pull 6 rfl).pull 1 rfl).pull 6 rfl).pull 6 rfl).pull 6 rfl).pull 6 rfl).pull 6 rfl)
          refine GoC.loop (T := Nat × (List LastV) × (List (ByteArray × ByteArray)) × (Option Addr) × Nat) (fun gg => [(1, .slice ad l.length c), (2, .int .i64 client), (7, .pointer (some ⟨p157, 0, none⟩)), (9, .pointer (some ⟨b152, 0, none⟩)), (11, .pointer (some ⟨p161, 0, none⟩)), (12, .pointer (some ⟨b166, 0, none⟩)), (13, .int .i64 (gg.1 : Nat))]) (fun gg w => (gg.1 ≤ l.length ∧ PI (gg.2.1, gg.2.2.1)) ∧ St W ((Cel p157 (arrCells LastV.cells gg.2.1) 86) :: (Cel p161 #[.map (some r162)] 89) :: (MapA Value.string Value.string r162 gg.2.2.1) :: (Cel b152 (arrCells LastV.cells gg.2.1) 76) :: (Cel b166 #[.slice gg.2.2.2.1 ((lst gg.2.2.1).length) gg.2.2.2.2] 68) :: (Sl gg.2.2.2.1 gg.2.2.2.2 61 2 ItemV.cells (lst gg.2.2.1)) :: (Base W) :: []) w) (fun gg => l.length - gg.1) (0, (List.replicate 8 dLast), [], none, 0) [1, 2, 7, 9, 11, 12, 13] (by kernel_rfl) ⟨⟨Nat.zero_le _, PI.start (by simp)⟩, hs172⟩ ?_
          rintro ⟨kk, tA, mA, adr, cr⟩ w173 ⟨hr0, hs174⟩
          have hr : kk ≤ l.length ∧ PI (tA, mA) := hr0
          have hs175 : St W ((Cel p157 (arrCells LastV.cells tA) 86) :: (Cel p161 #[.map (some r162)] 89) :: (MapA Value.string Value.string r162 mA) :: (Cel b152 (arrCells LastV.cells tA) 76) :: (Cel b166 #[.slice adr ((lst mA).length) cr] 68) :: (Sl adr cr 61 2 ItemV.cells (lst mA)) :: (Base W) :: []) w173 := hs174
          refine GoC.slots (S' := [(1, .slice ad l.length c), (2, .int .i64 client), (7, .pointer (some ⟨p157, 0, none⟩)), (9, .pointer (some ⟨b152, 0, none⟩)), (11, .pointer (some ⟨p161, 0, none⟩)), (12, .pointer (some ⟨b166, 0, none⟩)), (13, .int .i64 (kk : Nat))]) rfl ?_
          have htA : tA.length = 8 := hr.2.inv.len
          refine GoC.seq (GoC.seq ?_)
          refine GoC.regT [15, 15, 15, 15] (.rd 0 (.rd 1 (.rd 2 (.rd 3 .done)))) (by kernel_rfl) (by kernel_rfl) ?_
          refine GoR.phaseK [(0, .gen []), (1, .gen []), (2, .gen []), (3, .gen [])] [59, 1, 2, 7, 9, 11, 12, 13] [] [(59, .bool (decide (((kk : Nat) : Int) < (l.length : Nat)))), (1, .slice ad l.length c), (2, .int .i64 client), (7, .pointer (some ⟨p157, 0, none⟩)), (9, .pointer (some ⟨b152, 0, none⟩)), (11, .pointer (some ⟨p161, 0, none⟩)), (12, .pointer (some ⟨b166, 0, none⟩)), (13, .int .i64 (kk : Nat))] (by kernel_rfl) rfl ak0 ?_
          refine GoR.done (GoQ.thn ?_)
          refine GoC.cond (t := decide (((kk : Nat) : Int) < (l.length : Nat))) (by kernel_rfl) (fun h176 => ?_) (fun h176 => ?_)
          · have h176' : ((kk : Nat) : Int) < (l.length : Nat) := of_decide_eq_true h176
            have hkk : kk < l.length := by omega
            obtain ⟨ab177, ao178, rfl⟩ := RowsAt.isSome rw2 (by omega)
            refine GoC.skip (GoQ.thn (GoC.seq (GoC.block (GoC.seq ?_))))
            refine GoC.regT [8191, 8191, 8191, 8191, 8191, 8191, 8191, 8191, 8191, 8191, 8191, 8191, 8191] (.rd 0 (.rd 1 (.rd 2 (.rd 3 (.rd 4 (.rd 5 (.ef 6 (.rd 7 (.rd 8 (.rd 9 (.ef 10 (.ef 11 (.rd 12 .done))))))))))))) (by kernel_rfl) (by kernel_rfl) ?_
            refine GoR.phaseK [(0, .gen []), (1, .gen []), (2, .gen []), (3, .gen []), (4, .as_ (.pointer (some ⟨ab177, ao178 + (kk * 40), none⟩)) .at_), (5, .agg (ReqV.cells (l.getD kk dReq)))] [68, 64, 63, 1, 2, 7, 9, 11, 12, 13] [(4, [.prop (0 ≤ ((kk : Nat) : Int) ∧ ((kk : Nat) : Int) < ((l.length : Nat) : Int)), .prop (Value.pointer (some (Addr.add ⟨ab177, ao178, none⟩ (Int.toNat (kk : Nat) * 40))) = Value.pointer (some ⟨ab177, ao178 + (kk * 40), none⟩))]), (5, [.prop (Array.size (ReqV.cells (l.getD kk dReq)) = 40), .cells ⟨ab177, ao178 + (kk * 40), none⟩ (ReqV.cells (l.getD kk dReq))])] [(68, .agg (ReqV.cells (l.getD kk dReq))), (64, .pointer (some ⟨p161, 0, none⟩)), (63, .pointer (some ⟨p157, 0, none⟩)), (1, .slice (some ⟨ab177, ao178, none⟩) l.length c), (2, .int .i64 client), (7, .pointer (some ⟨p157, 0, none⟩)), (9, .pointer (some ⟨b152, 0, none⟩)), (11, .pointer (some ⟨p161, 0, none⟩)), (12, .pointer (some ⟨b166, 0, none⟩)), (13, .int .i64 (kk : Nat))] (by kernel_rfl) rfl (ak (okp (by omega) (okp (ptrAdd _ _ _) ok0)) (ak (okp (by kernel_rfl) (oka (RowsAt.all0 (rw2.base (fun k _ => (reqF).size _) hs175 6 rfl) (by first | omega | (simp only [List.length_set]; omega)) (Nat.le_of_ble_eq_true (by kernel_rfl)) (by kernel_rfl)) ok0)) ak0)) ?_
            refine GoR.call rfl rfl (by kernel_rfl) (f := 15) (args := #[.pointer (some ⟨p157, 0, none⟩), .pointer (some ⟨p161, 0, none⟩), .agg (ReqV.cells (l.getD kk dReq))]) (by kernel_rfl) Tryd.call15 (sdo_spec tA mA (l.getD kk dReq) hr.2.inv.len hr.2.inv.inv.short (fun w h => hLW.base h 3 rfl) (hok _ (getD_mem hkk)).op.amount.1 hs175) ?_
            rintro v180 w181 ⟨rfl, hs179⟩
            refine ⟨(opn (by kernel_rfl)), ?_⟩
            refine GoR.phaseK [(7, .gen []), (8, .gen []), (9, .gen [])] [71, 70, 1, 2, 7, 9, 11, 12, 13] [] [(71, .bool ((sdo tA mA (l.getD kk dReq)).1.2)), (70, .agg (RepV.cells ((sdo tA mA (l.getD kk dReq)).1.1))), (1, .slice (some ⟨ab177, ao178, none⟩) l.length c), (2, .int .i64 client), (7, .pointer (some ⟨p157, 0, none⟩)), (9, .pointer (some ⟨b152, 0, none⟩)), (11, .pointer (some ⟨p161, 0, none⟩)), (12, .pointer (some ⟨b166, 0, none⟩)), (13, .int .i64 (kk : Nat))] (by kernel_rfl) rfl ak0 ?_
            refine GoR.alloc rfl rfl (by kernel_rfl) (z := .agg #[.int .i64 0, .string (⟨#[]⟩ : ByteArray)]) (by kernel_rfl) hs179 (cs := #[.int .i64 0, .string (⟨#[]⟩ : ByteArray)]) (by kernel_rfl) ?_
            intro b182 w183 hs184
            refine ⟨(opn (by kernel_rfl)), ?_⟩
            refine GoR.store rfl rfl (by kernel_rfl) (b := b182) (off := 0) (v := .agg (RepV.cells ((sdo tA mA (l.getD kk dReq)).1.1))) (by kernel_rfl) (by kernel_rfl) (ti := Tryd.t34) (by kernel_rfl) hs184 0 rfl (by kernel_rfl) (by kernel_rfl) (Nat.le_of_ble_eq_true (by kernel_rfl)) (cs' := RepV.cells ((sdo tA mA (l.getD kk dReq)).1.1)) (L' := (Cel b182 (RepV.cells ((sdo tA mA (l.getD kk dReq)).1.1)) 34) :: (Cel p157 (arrCells LastV.cells ((sdo tA mA (l.getD kk dReq)).2.1)) 86) :: (Cel p161 #[.map (some r162)] 89) :: (MapA Value.string Value.string r162 ((sdo tA mA (l.getD kk dReq)).2.2)) :: (Cel b152 (arrCells LastV.cells tA) 76) :: (Cel b166 #[.slice adr ((lst mA).length) cr] 68) :: (Sl adr cr 61 2 ItemV.cells (lst mA)) :: (Base W) :: []) (by kernel_rfl) rfl ?_
            intro w185 hs186
            refine ⟨(opn (by kernel_rfl)), ?_⟩
            refine GoR.phaseK [(12, .gen [])] [15, 14, 1, 2, 7, 9, 11, 12, 13] [] [(15, .bool ((sdo tA mA (l.getD kk dReq)).1.2)), (14, .pointer (some ⟨b182, 0, none⟩)), (1, .slice (some ⟨ab177, ao178, none⟩) l.length c), (2, .int .i64 client), (7, .pointer (some ⟨p157, 0, none⟩)), (9, .pointer (some ⟨b152, 0, none⟩)), (11, .pointer (some ⟨p161, 0, none⟩)), (12, .pointer (some ⟨b166, 0, none⟩)), (13, .int .i64 (kk : Nat))] (by kernel_rfl) rfl ak0 ?_
            refine GoR.done (GoQ.thn (GoC.seq ?_))
            refine GoC.regT [4095, 4095, 4095, 4095, 4095, 4095, 4095, 4095, 4095, 4095, 4095, 4095] (.rd 0 (.rd 1 (.rd 2 (.rd 3 (.rd 4 (.ef 5 (.rd 6 (.rd 7 (.rd 8 (.ef 9 (.ef 10 (.rd 11 .done)))))))))))) (by kernel_rfl) (by kernel_rfl) ?_
            refine GoR.phaseK [(0, .gen []), (1, .gen []), (2, .gen []), (3, .as_ (.pointer (some ⟨ab177, ao178 + (kk * 40), none⟩)) .at_), (4, .agg (ReqV.cells (l.getD kk dReq)))] [77, 73, 15, 14, 1, 2, 7, 9, 11, 12, 13] [(3, [.prop (0 ≤ ((kk : Nat) : Int) ∧ ((kk : Nat) : Int) < ((l.length : Nat) : Int)), .prop (Value.pointer (some (Addr.add ⟨ab177, ao178, none⟩ (Int.toNat (kk : Nat) * 40))) = Value.pointer (some ⟨ab177, ao178 + (kk * 40), none⟩))]), (4, [.prop (Array.size (ReqV.cells (l.getD kk dReq)) = 40), .cells ⟨ab177, ao178 + (kk * 40), none⟩ (ReqV.cells (l.getD kk dReq))])] [(77, .agg (ReqV.cells (l.getD kk dReq))), (73, .pointer (some ⟨b166, 0, none⟩)), (15, .bool ((sdo tA mA (l.getD kk dReq)).1.2)), (14, .pointer (some ⟨b182, 0, none⟩)), (1, .slice (some ⟨ab177, ao178, none⟩) l.length c), (2, .int .i64 client), (7, .pointer (some ⟨p157, 0, none⟩)), (9, .pointer (some ⟨b152, 0, none⟩)), (11, .pointer (some ⟨p161, 0, none⟩)), (12, .pointer (some ⟨b166, 0, none⟩)), (13, .int .i64 (kk : Nat))] (by kernel_rfl) rfl (ak (okp (by omega) (okp (ptrAdd _ _ _) ok0)) (ak (okp (by kernel_rfl) (oka (RowsAt.all0 (rw2.base (fun k _ => (reqF).size _) hs186 7 rfl) (by first | omega | (simp only [List.length_set]; omega)) (Nat.le_of_ble_eq_true (by kernel_rfl)) (by kernel_rfl)) ok0)) ak0)) ?_
            have hs187 : St W ((Cel b152 (arrCells LastV.cells tA) 76) :: (Cel b166 #[.slice adr ((lst mA).length) cr] 68) :: (Sl adr cr 61 2 ItemV.cells (lst mA)) :: (Cel b182 (RepV.cells ((sdo tA mA (l.getD kk dReq)).1.1)) 34) :: (Cel p157 (arrCells LastV.cells ((sdo tA mA (l.getD kk dReq)).2.1)) 86) :: (Cel p161 #[.map (some r162)] 89) :: (MapA Value.string Value.string r162 ((sdo tA mA (l.getD kk dReq)).2.2)) :: (Base W) :: []) w185 := (((hs186.pull 6 rfl).pull 6 rfl).pull 6 rfl)
            refine GoR.call rfl rfl (by kernel_rfl) (f := 36) (args := #[.pointer (some ⟨b152, 0, none⟩), .pointer (some ⟨b166, 0, none⟩), .agg (ReqV.cells (l.getD kk dReq))]) (by kernel_rfl) Tryd.call36 (rsdo_spec tA (lst mA) (l.getD kk dReq) hr.2.inv.len (by rw [lst_length]; exact Nat.le_trans hr.2.inv.inv.len (by decide)) (fun x hx => Nat.le_trans (hr.2.inv.inv.val _ (lst_mem.1 hx)) (by decide)) (hok _ (getD_mem hkk)).op.amount.1 hs187) ?_
            rintro v191 w192 ⟨ad188, c189, rfl, hs190⟩
            refine ⟨(opn (by kernel_rfl)), ?_⟩
            refine GoR.phaseK [(6, .gen []), (7, .gen []), (8, .gen [])] [80, 79, 15, 14, 1, 2, 7, 9, 11, 12, 13] [] [(80, .bool ((rsdo tA (lst mA) (l.getD kk dReq)).1.2)), (79, .agg (RepV.cells ((rsdo tA (lst mA) (l.getD kk dReq)).1.1))), (15, .bool ((sdo tA mA (l.getD kk dReq)).1.2)), (14, .pointer (some ⟨b182, 0, none⟩)), (1, .slice (some ⟨ab177, ao178, none⟩) l.length c), (2, .int .i64 client), (7, .pointer (some ⟨p157, 0, none⟩)), (9, .pointer (some ⟨b152, 0, none⟩)), (11, .pointer (some ⟨p161, 0, none⟩)), (12, .pointer (some ⟨b166, 0, none⟩)), (13, .int .i64 (kk : Nat))] (by kernel_rfl) rfl ak0 ?_
            refine GoR.alloc rfl rfl (by kernel_rfl) (z := .agg #[.int .i64 0, .string (⟨#[]⟩ : ByteArray)]) (by kernel_rfl) hs190 (cs := #[.int .i64 0, .string (⟨#[]⟩ : ByteArray)]) (by kernel_rfl) ?_
            intro b193 w194 hs195
            refine ⟨(opn (by kernel_rfl)), ?_⟩
            refine GoR.store rfl rfl (by kernel_rfl) (b := b193) (off := 0) (v := .agg (RepV.cells ((rsdo tA (lst mA) (l.getD kk dReq)).1.1))) (by kernel_rfl) (by kernel_rfl) (ti := Tryd.t34) (by kernel_rfl) hs195 0 rfl (by kernel_rfl) (by kernel_rfl) (Nat.le_of_ble_eq_true (by kernel_rfl)) (cs' := RepV.cells ((rsdo tA (lst mA) (l.getD kk dReq)).1.1)) (L' := (Cel b193 (RepV.cells ((rsdo tA (lst mA) (l.getD kk dReq)).1.1)) 34) :: (Cel b152 (arrCells LastV.cells ((rsdo tA (lst mA) (l.getD kk dReq)).2.1)) 76) :: (Cel b166 #[.slice ad188 (((rsdo tA (lst mA) (l.getD kk dReq)).2.2).length) c189] 68) :: (Sl ad188 c189 61 2 ItemV.cells ((rsdo tA (lst mA) (l.getD kk dReq)).2.2)) :: (Cel b182 (RepV.cells ((sdo tA mA (l.getD kk dReq)).1.1)) 34) :: (Cel p157 (arrCells LastV.cells ((sdo tA mA (l.getD kk dReq)).2.1)) 86) :: (Cel p161 #[.map (some r162)] 89) :: (MapA Value.string Value.string r162 ((sdo tA mA (l.getD kk dReq)).2.2)) :: (Base W) :: []) (by kernel_rfl) rfl ?_
            intro w196 hs197
            refine ⟨(opn (by kernel_rfl)), ?_⟩
            refine GoR.phaseK [(11, .gen [])] [17, 16, 15, 14, 1, 2, 7, 9, 11, 12, 13] [] [(17, .bool ((rsdo tA (lst mA) (l.getD kk dReq)).1.2)), (16, .pointer (some ⟨b193, 0, none⟩)), (15, .bool ((sdo tA mA (l.getD kk dReq)).1.2)), (14, .pointer (some ⟨b182, 0, none⟩)), (1, .slice (some ⟨ab177, ao178, none⟩) l.length c), (2, .int .i64 client), (7, .pointer (some ⟨p157, 0, none⟩)), (9, .pointer (some ⟨b152, 0, none⟩)), (11, .pointer (some ⟨p161, 0, none⟩)), (12, .pointer (some ⟨b166, 0, none⟩)), (13, .int .i64 (kk : Nat))] (by kernel_rfl) rfl ak0 ?_
            refine GoR.done (GoQ.thn (GoC.seq ?_))
            refine GoC.regD [0, 0, 3, 7, 15, 15, 63, 127, 255, 511, 1023, 511, 4095, 8191, 16383] (.rd 0 (.rd 1 (.rd 2 (.rd 3 (.rd 4 (.rd 5 (.rd 6 (.rd 7 (.rd 8 (.rd 9 (.rd 11 (.ef 10 (.ef 12 (.rd 13 (.rd 14 .done))))))))))))))) (by kernel_rfl) (by kernel_rfl) noPan_body (by kernel_rfl) hs197 ?_
            intro w198 hs199 hw200
            refine GoR.phaseK [(0, .agg (RepV.cells ((sdo tA mA (l.getD kk dReq)).1.1))), (1, .agg (RepV.cells ((rsdo tA (lst mA) (l.getD kk dReq)).1.1)))] [82, 81, 17, 15, 1, 2, 7, 9, 11, 12, 13] [(0, [.prop (Array.size (RepV.cells ((sdo tA mA (l.getD kk dReq)).1.1)) = 2), .cells ⟨b182, 0, none⟩ (RepV.cells ((sdo tA mA (l.getD kk dReq)).1.1))]), (1, [.prop (Array.size (RepV.cells ((rsdo tA (lst mA) (l.getD kk dReq)).1.1)) = 2), .cells ⟨b193, 0, none⟩ (RepV.cells ((rsdo tA (lst mA) (l.getD kk dReq)).1.1))])] [(82, .agg (RepV.cells ((rsdo tA (lst mA) (l.getD kk dReq)).1.1))), (81, .agg (RepV.cells ((sdo tA mA (l.getD kk dReq)).1.1))), (17, .bool ((rsdo tA (lst mA) (l.getD kk dReq)).1.2)), (15, .bool ((sdo tA mA (l.getD kk dReq)).1.2)), (1, .slice (some ⟨ab177, ao178, none⟩) l.length c), (2, .int .i64 client), (7, .pointer (some ⟨p157, 0, none⟩)), (9, .pointer (some ⟨b152, 0, none⟩)), (11, .pointer (some ⟨p161, 0, none⟩)), (12, .pointer (some ⟨b166, 0, none⟩)), (13, .int .i64 (kk : Nat))] (by kernel_rfl) rfl (ak (okp (by kernel_rfl) (oka (hs199.cells 4 0 rfl (by kernel_rfl)) ok0)) (ak (okp (by kernel_rfl) (oka (hs199.cells 0 0 rfl (by kernel_rfl)) ok0)) ak0)) ?_
            refine GoR.eqAgg rfl (by kernel_rfl) (b := false) (t := 34) (xs := RepV.cells ((sdo tA mA (l.getD kk dReq)).1.1)) (ys := RepV.cells ((rsdo tA (lst mA) (l.getD kk dReq)).1.1)) (m := 2) (by kernel_rfl) (by kernel_rfl) (by decide) (by kernel_rfl) (r := !(decide ((sdo tA mA (l.getD kk dReq)).1.1 = (rsdo tA (lst mA) (l.getD kk dReq)).1.1))) (aggNe  (repEq ((sdo tA mA (l.getD kk dReq)).1.1) ((rsdo tA (lst mA) (l.getD kk dReq)).1.1))) ?_
            refine GoR.phaseK [(3, .gen [])] [84, 17, 15, 1, 2, 7, 9, 11, 12, 13] [] [(84, .bool (!(decide ((sdo tA mA (l.getD kk dReq)).1.1 = (rsdo tA (lst mA) (l.getD kk dReq)).1.1)))), (17, .bool ((rsdo tA (lst mA) (l.getD kk dReq)).1.2)), (15, .bool ((sdo tA mA (l.getD kk dReq)).1.2)), (1, .slice (some ⟨ab177, ao178, none⟩) l.length c), (2, .int .i64 client), (7, .pointer (some ⟨p157, 0, none⟩)), (9, .pointer (some ⟨b152, 0, none⟩)), (11, .pointer (some ⟨p161, 0, none⟩)), (12, .pointer (some ⟨b166, 0, none⟩)), (13, .int .i64 (kk : Nat))] (by kernel_rfl) rfl ak0 ?_
            rcases Bool.eq_false_or_eq_true (!(decide ((sdo tA mA (l.getD kk dReq)).1.1 = (rsdo tA (lst mA) (l.getD kk dReq)).1.1))) with h201 | h201
            · refine GoR.setB 84 true (by decide) (by kernel_rfl) h201 ?_
              have h201n : (decide ((sdo tA mA (l.getD kk dReq)).1.1 = (rsdo tA (lst mA) (l.getD kk dReq)).1.1)) = false := notT h201
              have h201n' : ¬ ((sdo tA mA (l.getD kk dReq)).1.1 = (rsdo tA (lst mA) (l.getD kk dReq)).1.1) := of_decide_eq_false h201n
              exact absurd h201 (by rw [rsdo_lst hr.2.inv]; simp)
            · refine GoR.setB 84 false (by decide) (by kernel_rfl) h201 ?_
              have h201n : (decide ((sdo tA mA (l.getD kk dReq)).1.1 = (rsdo tA (lst mA) (l.getD kk dReq)).1.1)) = true := notF h201
              have h201n' : (sdo tA mA (l.getD kk dReq)).1.1 = (rsdo tA (lst mA) (l.getD kk dReq)).1.1 := of_decide_eq_true h201n
              refine GoR.phaseK [(4, .gen []), (5, .gen []), (6, .gen []), (7, .gen []), (8, .gen [])] [89, 1, 2, 7, 9, 11, 12, 13] [] [(89, .bool (!(((sdo tA mA (l.getD kk dReq)).1.2) == ((rsdo tA (lst mA) (l.getD kk dReq)).1.2)))), (1, .slice (some ⟨ab177, ao178, none⟩) l.length c), (2, .int .i64 client), (7, .pointer (some ⟨p157, 0, none⟩)), (9, .pointer (some ⟨b152, 0, none⟩)), (11, .pointer (some ⟨p161, 0, none⟩)), (12, .pointer (some ⟨b166, 0, none⟩)), (13, .int .i64 (kk : Nat))] (by kernel_rfl) rfl ak0 ?_
              rcases Bool.eq_false_or_eq_true (!(((sdo tA mA (l.getD kk dReq)).1.2) == ((rsdo tA (lst mA) (l.getD kk dReq)).1.2))) with h202 | h202
              · refine GoR.setB 89 true (by decide) (by kernel_rfl) h202 ?_
                have h202n : (((sdo tA mA (l.getD kk dReq)).1.2) == ((rsdo tA (lst mA) (l.getD kk dReq)).1.2)) = false := notT h202
                exact absurd h202 (by rw [rsdo_lst hr.2.inv]; simp)
              · refine GoR.setB 89 false (by decide) (by kernel_rfl) h202 ?_
                have h202n : (((sdo tA mA (l.getD kk dReq)).1.2) == ((rsdo tA (lst mA) (l.getD kk dReq)).1.2)) = true := notF h202
                refine GoR.phaseK [(9, .gen []), (11, .agg (arrCells LastV.cells ((rsdo tA (lst mA) (l.getD kk dReq)).2.1)))] [92, 90, 89, 1, 2, 7, 9, 11, 12, 13] [(11, [.prop (Array.size ((arrCells LastV.cells ((rsdo tA (lst mA) (l.getD kk dReq)).2.1))) = 24), .cells ⟨b152, 0, none⟩ (arrCells LastV.cells ((rsdo tA (lst mA) (l.getD kk dReq)).2.1))])] [(92, .agg (arrCells LastV.cells ((rsdo tA (lst mA) (l.getD kk dReq)).2.1))), (90, .pointer (some ⟨p157, 0, none⟩)), (89, .bool false), (1, .slice (some ⟨ab177, ao178, none⟩) l.length c), (2, .int .i64 client), (7, .pointer (some ⟨p157, 0, none⟩)), (9, .pointer (some ⟨b152, 0, none⟩)), (11, .pointer (some ⟨p161, 0, none⟩)), (12, .pointer (some ⟨b166, 0, none⟩)), (13, .int .i64 (kk : Nat))] (by kernel_rfl) rfl (ak (okp (arrvSize lastF (show ((rsdo tA (lst mA) (l.getD kk dReq)).2.1).length = 8 from (rsdo_tab hr.2.inv _)) rfl) (oka (hs199.cells 1 0 rfl (by simp)) ok0)) ak0) ?_
                have hs203 : St W ((Cel p157 (arrCells LastV.cells ((sdo tA mA (l.getD kk dReq)).2.1)) 86) :: (Cel b193 (RepV.cells ((rsdo tA (lst mA) (l.getD kk dReq)).1.1)) 34) :: (Cel b152 (arrCells LastV.cells ((rsdo tA (lst mA) (l.getD kk dReq)).2.1)) 76) :: (Cel b166 #[.slice ad188 (((rsdo tA (lst mA) (l.getD kk dReq)).2.2).length) c189] 68) :: (Sl ad188 c189 61 2 ItemV.cells ((rsdo tA (lst mA) (l.getD kk dReq)).2.2)) :: (Cel b182 (RepV.cells ((sdo tA mA (l.getD kk dReq)).1.1)) 34) :: (Cel p161 #[.map (some r162)] 89) :: (MapA Value.string Value.string r162 ((sdo tA mA (l.getD kk dReq)).2.2)) :: (Base W) :: []) w198 := (hs199.pull 5 rfl)
                refine GoR.call rfl rfl (by kernel_rfl) (f := 19) (args := #[.pointer (some ⟨p157, 0, none⟩)]) (by kernel_rfl) Tryd.call19 (sesList_spec ((sdo tA mA (l.getD kk dReq)).2.1) (sdo_tab hr.2.inv _) hs203) ?_
                rintro v207 w208 ⟨ad204, c205, rfl, hs206⟩
                refine ⟨(opl (n := [.prop (Array.size ((arrCells LastV.cells ((rsdo tA (lst mA) (l.getD kk dReq)).2.1))) = 24), .cells ⟨b152, 0, none⟩ (arrCells LastV.cells ((rsdo tA (lst mA) (l.getD kk dReq)).2.1))]) (by kernel_rfl) (okp (arrvSize lastF (show ((rsdo tA (lst mA) (l.getD kk dReq)).2.1).length = 8 from (rsdo_tab hr.2.inv _)) rfl) (oka (hs206.cells 3 0 rfl (by simp)) ok0))), ?_⟩
                refine GoR.call rfl rfl (by kernel_rfl) (f := 37) (args := #[.slice ad204 (((sdo tA mA (l.getD kk dReq)).2.1).length) c205, .agg (arrCells LastV.cells ((rsdo tA (lst mA) (l.getD kk dReq)).2.1))]) (by kernel_rfl) Tryd.call37 (same10_spec ((sdo tA mA (l.getD kk dReq)).2.1) ((rsdo tA (lst mA) (l.getD kk dReq)).2.1) (rsdo_tab hr.2.inv _) (by rw [sdo_tab hr.2.inv _]; decide) (fun w h => h.rows 0 rfl (lastF).size _) hs206) ?_
                rintro v210 w211 ⟨rfl, hs209⟩
                refine ⟨(opn (by kernel_rfl)), ?_⟩
                refine GoR.phaseK [(13, .gen []), (14, .gen [])] [95, 1, 2, 7, 9, 11, 12, 13] [] [(95, .bool (!(decide (((sdo tA mA (l.getD kk dReq)).2.1) = ((rsdo tA (lst mA) (l.getD kk dReq)).2.1))))), (1, .slice (some ⟨ab177, ao178, none⟩) l.length c), (2, .int .i64 client), (7, .pointer (some ⟨p157, 0, none⟩)), (9, .pointer (some ⟨b152, 0, none⟩)), (11, .pointer (some ⟨p161, 0, none⟩)), (12, .pointer (some ⟨b166, 0, none⟩)), (13, .int .i64 (kk : Nat))] (by kernel_rfl) rfl ak0 ?_
                refine GoR.done (GoQ.thn ?_)
                refine GoC.cond (t := !(decide (((sdo tA mA (l.getD kk dReq)).2.1) = ((rsdo tA (lst mA) (l.getD kk dReq)).2.1)))) (by kernel_rfl) (fun h212 => ?_) (fun h212 => ?_)
                · have h212n : (decide (((sdo tA mA (l.getD kk dReq)).2.1) = ((rsdo tA (lst mA) (l.getD kk dReq)).2.1))) = false := notT h212
                  exact absurd h212 (by rw [rsdo_lst hr.2.inv]; simp)
                · have h212n : (decide (((sdo tA mA (l.getD kk dReq)).2.1) = ((rsdo tA (lst mA) (l.getD kk dReq)).2.1))) = true := notF h212
                  refine GoC.skip (GoQ.blkN (GoQ.thn ?_))
                  refine GoC.regT [7, 7, 7] (.rd 0 (.rd 1 (.rd 2 .done))) (by kernel_rfl) (by kernel_rfl) ?_
                  refine GoR.phaseK [(0, .gen []), (1, .as_ (.int .i64 ((kk : Nat) + 1)) (.gen [])), (2, .gen [])] [13, 1, 2, 7, 9, 11, 12] [(1, [.prop (Value.int .i64 (IntKind.i64.wrap ((kk : Nat) + 1)) = Value.int .i64 ((kk : Nat) + 1))])] [(13, .int .i64 ((kk : Nat) + 1)), (1, .slice (some ⟨ab177, ao178, none⟩) l.length c), (2, .int .i64 client), (7, .pointer (some ⟨p157, 0, none⟩)), (9, .pointer (some ⟨b152, 0, none⟩)), (11, .pointer (some ⟨p161, 0, none⟩)), (12, .pointer (some ⟨b166, 0, none⟩))] (by kernel_rfl) rfl (ak (okp (i64ok (by omega) (by omega)) ok0) ak0) ?_
                  refine GoR.done ?_
                  have hs213 : St W ((Sl ad204 c205 41 3 LastV.cells ((sdo tA mA (l.getD kk dReq)).2.1)) :: (Cel b193 (RepV.cells ((rsdo tA (lst mA) (l.getD kk dReq)).1.1)) 34) :: (Cel b182 (RepV.cells ((sdo tA mA (l.getD kk dReq)).1.1)) 34) :: (Cel p157 (arrCells LastV.cells ((sdo tA mA (l.getD kk dReq)).2.1)) 86) :: (Cel p161 #[.map (some r162)] 89) :: (MapA Value.string Value.string r162 ((sdo tA mA (l.getD kk dReq)).2.2)) :: (Cel b152 (arrCells LastV.cells ((rsdo tA (lst mA) (l.getD kk dReq)).2.1)) 76) :: (Cel b166 #[.slice ad188 (((rsdo tA (lst mA) (l.getD kk dReq)).2.2).length) c189] 68) :: (Sl ad188 c189 61 2 ItemV.cells ((rsdo tA (lst mA) (l.getD kk dReq)).2.2)) :: (Base W) :: []) w211 := ((((((((((hs209.pull 9 rfl).pull 6 rfl).pull 6 rfl).pull 6 rfl).pull 9 rfl).pull 9 rfl).pull 7 rfl).pull 9 rfl).pull 9 rfl).pull 9 rfl)
                  have hs214 : St W ((Cel p157 (arrCells LastV.cells ((sdo tA mA (l.getD kk dReq)).2.1)) 86) :: (Cel p161 #[.map (some r162)] 89) :: (MapA Value.string Value.string r162 ((sdo tA mA (l.getD kk dReq)).2.2)) :: (Cel b152 (arrCells LastV.cells ((rsdo tA (lst mA) (l.getD kk dReq)).2.1)) 76) :: (Cel b166 #[.slice ad188 (((rsdo tA (lst mA) (l.getD kk dReq)).2.2).length) c189] 68) :: (Sl ad188 c189 61 2 ItemV.cells ((rsdo tA (lst mA) (l.getD kk dReq)).2.2)) :: (Base W) :: []) w211 := hs213.drop 3
                  rw [rsdo_lst hr.2.inv] at hs214
                  exact GoQ.back (kk + 1, ((sdo tA mA (l.getD kk dReq)).2.1), (sdo tA mA (l.getD kk dReq)).2.2, ad188, c189) [1, 2, 7, 9, 11, 12, 13] (by kernel_rfl) (by show l.length - (kk + 1) < l.length - kk; omega) ⟨⟨by omega, hr.2.step _⟩, hs214⟩
          · have h176' : ¬ (((kk : Nat) : Int) < (l.length : Nat)) := of_decide_eq_false h176
            refine GoC.exit (GoQ.skipC (GoQ.skipL (GoQ.hit (GoQ.thn (GoC.seq ?_)))))
            refine GoC.regT [7, 7, 7] (.rd 0 (.ef 1 (.ef 2 .done))) (by kernel_rfl) (by kernel_rfl) ?_
            refine GoR.phaseK [(0, .gen [])] [96, 2, 7, 9, 11, 12] [] [(96, .agg #[.int .u64 0, .int .i64 0, .string (⟨#[]⟩ : ByteArray)]), (2, .int .i64 client), (7, .pointer (some ⟨p157, 0, none⟩)), (9, .pointer (some ⟨b152, 0, none⟩)), (11, .pointer (some ⟨p161, 0, none⟩)), (12, .pointer (some ⟨b166, 0, none⟩))] (by kernel_rfl) rfl ak0 ?_
            refine GoR.alloc rfl rfl (by kernel_rfl) (z := .agg #[.int .u64 0, .int .i64 0, .string (⟨#[]⟩ : ByteArray)]) (by kernel_rfl) hs175 (cs := #[.int .u64 0, .int .i64 0, .string (⟨#[]⟩ : ByteArray)]) (by kernel_rfl) ?_
            intro b215 w216 hs217
            refine ⟨(opn (by kernel_rfl)), ?_⟩
            refine GoR.store rfl rfl (by kernel_rfl) (b := b215) (off := 0) (v := .agg #[.int .u64 0, .int .i64 0, .string (⟨#[]⟩ : ByteArray)]) (by kernel_rfl) (by kernel_rfl) (ti := Tryd.t41) (by kernel_rfl) hs217 0 rfl (by kernel_rfl) (by kernel_rfl) (Nat.le_of_ble_eq_true (by kernel_rfl)) (cs' := #[.int .u64 0, .int .i64 0, .string (⟨#[]⟩ : ByteArray)]) (L' := (Cel b215 #[.int .u64 0, .int .i64 0, .string (⟨#[]⟩ : ByteArray)] 41) :: (Cel p157 (arrCells LastV.cells tA) 86) :: (Cel p161 #[.map (some r162)] 89) :: (MapA Value.string Value.string r162 mA) :: (Cel b152 (arrCells LastV.cells tA) 76) :: (Cel b166 #[.slice adr ((lst mA).length) cr] 68) :: (Sl adr cr 61 2 ItemV.cells (lst mA)) :: (Base W) :: []) (by kernel_rfl) rfl ?_
            intro w218 hs219
            refine ⟨(opn (by kernel_rfl)), ?_⟩
            refine GoR.done (GoQ.thn (GoC.seq (GoC.seq ?_)))
            refine GoC.join (T := Unit) (E := fun _ => [(102, .bool ((decide ((client : Int) ≥ 1)) && (decide ((client : Int) ≤ 8)))), (18, .pointer (some ⟨b215, 0, none⟩)), (2, .int .i64 client), (7, .pointer (some ⟨p157, 0, none⟩)), (9, .pointer (some ⟨b152, 0, none⟩)), (11, .pointer (some ⟨p161, 0, none⟩)), (12, .pointer (some ⟨b166, 0, none⟩))]) (F := fun _ w => St W ((Cel b215 #[.int .u64 0, .int .i64 0, .string (⟨#[]⟩ : ByteArray)] 41) :: (Cel p157 (arrCells LastV.cells tA) 86) :: (Cel p161 #[.map (some r162)] 89) :: (MapA Value.string Value.string r162 mA) :: (Cel b152 (arrCells LastV.cells tA) 76) :: (Cel b166 #[.slice adr ((lst mA).length) cr] 68) :: (Sl adr cr 61 2 ItemV.cells (lst mA)) :: (Base W) :: []) w) ?_ ?_
            · refine GoC.regT [63, 63, 63, 63, 63, 63] (.rd 0 (.rd 1 (.rd 2 (.rd 3 (.rd 4 (.rd 5 .done)))))) (by kernel_rfl) (by kernel_rfl) ?_
              refine GoR.phaseK [(0, .gen []), (1, .gen []), (2, .gen [])] [99, 18, 2, 7, 9, 11, 12] [] [(99, .bool (decide ((client : Int) ≥ 1))), (18, .pointer (some ⟨b215, 0, none⟩)), (2, .int .i64 client), (7, .pointer (some ⟨p157, 0, none⟩)), (9, .pointer (some ⟨b152, 0, none⟩)), (11, .pointer (some ⟨p161, 0, none⟩)), (12, .pointer (some ⟨b166, 0, none⟩))] (by kernel_rfl) rfl ak0 ?_
              rcases Bool.eq_false_or_eq_true (decide ((client : Int) ≥ 1)) with h220 | h220
              · refine GoR.setB 99 true (by decide) (by kernel_rfl) h220 ?_
                have h220' : (client : Int) ≥ 1 := of_decide_eq_true h220
                refine GoR.phaseK [(3, .gen []), (4, .gen []), (5, .gen [])] [102, 18, 2, 7, 9, 11, 12] [] [(102, .bool (decide ((client : Int) ≤ 8))), (18, .pointer (some ⟨b215, 0, none⟩)), (2, .int .i64 client), (7, .pointer (some ⟨p157, 0, none⟩)), (9, .pointer (some ⟨b152, 0, none⟩)), (11, .pointer (some ⟨p161, 0, none⟩)), (12, .pointer (some ⟨b166, 0, none⟩))] (by kernel_rfl) rfl ak0 ?_
                refine GoR.done ?_
                refine GoQ.pick [102, 18, 2, 7, 9, 11, 12] (S' := [(102, .bool (decide ((client : Int) ≤ 8))), (18, .pointer (some ⟨b215, 0, none⟩)), (2, .int .i64 client), (7, .pointer (some ⟨p157, 0, none⟩)), (9, .pointer (some ⟨b152, 0, none⟩)), (11, .pointer (some ⟨p161, 0, none⟩)), (12, .pointer (some ⟨b166, 0, none⟩))]) (by kernel_rfl) ?_
                exact GoQ.meet1 () (by first | rfl | (simp only [h4, h4n, h220, Bool.not_true, Bool.not_false, Bool.true_or, Bool.false_or, Bool.true_and, Bool.false_and, Bool.or_true, Bool.or_false, Bool.and_true, Bool.and_false]; done) | (simp [h4, h4n, h220]; done)) hs219
              · refine GoR.setB 99 false (by decide) (by kernel_rfl) h220 ?_
                have h220' : ¬ ((client : Int) ≥ 1) := of_decide_eq_false h220
                refine GoR.phaseK [(3, .gen []), (4, .gen []), (5, .gen [])] [102, 18, 2, 7, 9, 11, 12] [] [(102, .bool false), (18, .pointer (some ⟨b215, 0, none⟩)), (2, .int .i64 client), (7, .pointer (some ⟨p157, 0, none⟩)), (9, .pointer (some ⟨b152, 0, none⟩)), (11, .pointer (some ⟨p161, 0, none⟩)), (12, .pointer (some ⟨b166, 0, none⟩))] (by kernel_rfl) rfl ak0 ?_
                refine GoR.done ?_
                refine GoQ.pick [102, 18, 2, 7, 9, 11, 12] (S' := [(102, .bool false), (18, .pointer (some ⟨b215, 0, none⟩)), (2, .int .i64 client), (7, .pointer (some ⟨p157, 0, none⟩)), (9, .pointer (some ⟨b152, 0, none⟩)), (11, .pointer (some ⟨p161, 0, none⟩)), (12, .pointer (some ⟨b166, 0, none⟩))]) (by kernel_rfl) ?_
                exact GoQ.meet1 () (by first | rfl | (simp only [h4, h4n, h220, Bool.not_true, Bool.not_false, Bool.true_or, Bool.false_or, Bool.true_and, Bool.false_and, Bool.or_true, Bool.or_false, Bool.and_true, Bool.and_false]; done) | (simp [h4, h4n, h220]; done)) hs219
            intro _ w221 hs222
            refine GoQ.thn ?_
            refine GoC.cond (t := (decide ((client : Int) ≥ 1)) && (decide ((client : Int) ≤ 8))) (by kernel_rfl) (fun h223 => ?_) (fun h223 => ?_)
            · have h223a : (decide ((client : Int) ≥ 1)) = true := (Bool.and_eq_true_iff.1 h223).1
              have h223a' : (client : Int) ≥ 1 := of_decide_eq_true h223a
              have h223b : (decide ((client : Int) ≤ 8)) = true := (Bool.and_eq_true_iff.1 h223).2
              have h223b' : (client : Int) ≤ 8 := of_decide_eq_true h223b
              refine GoC.regT [31, 31, 31, 31, 31] (.rd 0 (.rd 1 (.rd 2 (.rd 3 (.ef 4 .done))))) (by kernel_rfl) (by kernel_rfl) ?_
              refine GoR.phaseK [(0, .gen []), (1, .as_ (.int .i64 (client - 1)) (.gen [])), (2, .as_ (.pointer (some ⟨b152, 0 + ((Int.toNat (client - 1)) * 3), none⟩)) .at_), (3, .agg (LastV.cells (tA.getD (Int.toNat (client - 1)) dLast)))] [106, 18, 2, 7, 11, 12] [(1, [.prop (Value.int .i64 (IntKind.i64.wrap (client - 1)) = Value.int .i64 (client - 1))]), (2, [.prop (0 ≤ ((client - 1) : Int) ∧ ((client - 1) : Int) < (8 : Int)), .prop (Value.pointer (some (Addr.add ⟨b152, 0, none⟩ (Int.toNat (client - 1) * 3))) = Value.pointer (some ⟨b152, 0 + ((Int.toNat (client - 1)) * 3), none⟩))]), (3, [.prop (Array.size (LastV.cells (tA.getD (Int.toNat (client - 1)) dLast)) = 3), .cells ⟨b152, 0 + ((Int.toNat (client - 1)) * 3), none⟩ (LastV.cells (tA.getD (Int.toNat (client - 1)) dLast))])] [(106, .agg (LastV.cells (tA.getD (Int.toNat (client - 1)) dLast))), (18, .pointer (some ⟨b215, 0, none⟩)), (2, .int .i64 client), (7, .pointer (some ⟨p157, 0, none⟩)), (11, .pointer (some ⟨p161, 0, none⟩)), (12, .pointer (some ⟨b166, 0, none⟩))] (by kernel_rfl) rfl (ak (okp (i64ok (by omega) (by omega)) ok0) (ak (okp (by omega) (okp (ptrAdd _ _ _) ok0)) (ak (okp (by kernel_rfl) (oka (RowsAt.all0 (arr_rows hs222 4 rfl (lastF).size dLast) (by first | omega | (simp only [List.length_set]; omega)) (Nat.le_of_ble_eq_true (by kernel_rfl)) (by kernel_rfl)) ok0)) ak0))) ?_
              refine GoR.store rfl rfl (by kernel_rfl) (b := b215) (off := 0) (v := .agg (LastV.cells (tA.getD (Int.toNat (client - 1)) dLast))) (by kernel_rfl) (by kernel_rfl) (ti := Tryd.t41) (by kernel_rfl) hs222 0 rfl (by kernel_rfl) (by kernel_rfl) (Nat.le_of_ble_eq_true (by kernel_rfl)) (cs' := LastV.cells (tA.getD (Int.toNat (client - 1)) dLast)) (L' := (Cel b215 (LastV.cells (tA.getD (Int.toNat (client - 1)) dLast)) 41) :: (Cel p157 (arrCells LastV.cells tA) 86) :: (Cel p161 #[.map (some r162)] 89) :: (MapA Value.string Value.string r162 mA) :: (Cel b152 (arrCells LastV.cells tA) 76) :: (Cel b166 #[.slice adr ((lst mA).length) cr] 68) :: (Sl adr cr 61 2 ItemV.cells (lst mA)) :: (Base W) :: []) (by kernel_rfl) rfl ?_
              intro w224 hs225
              refine ⟨(opn (by kernel_rfl)), ?_⟩
              refine GoR.done (GoQ.thn (GoC.seq ?_))
              refine GoC.regD [0, 0, 3, 0, 15, 31, 63, 127, 63, 319, 831, 1855, 4095, 8191, 16383, 32767, 65535, 131071] (.rd 0 (.rd 1 (.rd 3 (.ef 2 (.rd 4 (.rd 5 (.rd 6 (.rd 8 (.rd 9 (.rd 10 (.rd 11 (.ef 7 (.ef 12 (.rd 13 (.rd 14 (.ef 15 (.rd 16 (.rd 17 .done)))))))))))))))))) (by kernel_rfl) (by kernel_rfl) noPan_body (by kernel_rfl) hs225 ?_
              intro w226 hs227 hw228
              refine GoR.phaseK [(0, .gen []), (1, .gen []), (3, .agg (LastV.cells (tA.getD (Int.toNat (client - 1)) dLast)))] [110, 108, 107, 11, 12] [(3, [.prop (Array.size (LastV.cells (tA.getD (Int.toNat (client - 1)) dLast)) = 3), .cells ⟨b215, 0, none⟩ (LastV.cells (tA.getD (Int.toNat (client - 1)) dLast))])] [(110, .agg (LastV.cells (tA.getD (Int.toNat (client - 1)) dLast))), (108, .int .i64 client), (107, .pointer (some ⟨p157, 0, none⟩)), (11, .pointer (some ⟨p161, 0, none⟩)), (12, .pointer (some ⟨b166, 0, none⟩))] (by kernel_rfl) rfl (ak (okp (by kernel_rfl) (oka (hs227.cells 0 0 rfl (by kernel_rfl)) ok0)) ak0) ?_
              have hs229 : St W ((Cel p157 (arrCells LastV.cells tA) 86) :: (Cel b215 (LastV.cells (tA.getD (Int.toNat (client - 1)) dLast)) 41) :: (Cel p161 #[.map (some r162)] 89) :: (MapA Value.string Value.string r162 mA) :: (Cel b152 (arrCells LastV.cells tA) 76) :: (Cel b166 #[.slice adr ((lst mA).length) cr] 68) :: (Sl adr cr 61 2 ItemV.cells (lst mA)) :: (Base W) :: []) w226 := (hs227.pull 1 rfl)
              refine GoR.call rfl rfl (by kernel_rfl) (f := 18) (args := #[.pointer (some ⟨p157, 0, none⟩), .int .i64 client]) (by kernel_rfl) Tryd.call18 (tlast_spec tA client hr.2.inv.len hs229) ?_
              rintro v231 w232 ⟨rfl, hs230⟩
              refine ⟨(opl (n := [.prop (Array.size (LastV.cells (tA.getD (Int.toNat (client - 1)) dLast)) = 3), .cells ⟨b215, 0, none⟩ (LastV.cells (tA.getD (Int.toNat (client - 1)) dLast))]) (by kernel_rfl) (okp (by kernel_rfl) (oka (hs230.cells 1 0 rfl (by kernel_rfl)) ok0))), ?_⟩
              refine GoR.eqAgg rfl (by kernel_rfl) (b := true) (t := 41) (xs := LastV.cells (tlast tA client)) (ys := LastV.cells (tA.getD (Int.toNat (client - 1)) dLast)) (m := 3) (by kernel_rfl) (by kernel_rfl) (by decide) (by kernel_rfl) (r := decide (tlast tA client = (tA.getD (Int.toNat (client - 1)) dLast))) (aggEq  (lastEq (tlast tA client) (tA.getD (Int.toNat (client - 1)) dLast))) ?_
              refine GoR.phaseK [(5, .gen [])] [112, 11, 12] [] [(112, .bool (decide (tlast tA client = (tA.getD (Int.toNat (client - 1)) dLast)))), (11, .pointer (some ⟨p161, 0, none⟩)), (12, .pointer (some ⟨b166, 0, none⟩))] (by kernel_rfl) rfl ak0 ?_
              rcases Bool.eq_false_or_eq_true (decide (tlast tA client = (tA.getD (Int.toNat (client - 1)) dLast))) with h233 | h233
              · refine GoR.setB 112 true (by decide) (by kernel_rfl) h233 ?_
                have h233' : tlast tA client = (tA.getD (Int.toNat (client - 1)) dLast) := of_decide_eq_true h233
                refine GoR.phaseK [(6, .gen []), (8, .gen []), (9, .gen []), (10, .gen []), (11, .gen [.slice adr ((lst mA).length) cr])] [118, 113, 112] [(11, [.cell ⟨b166, 0, none⟩ (.slice adr ((lst mA).length) cr)])] [(118, .slice adr ((lst mA).length) cr), (113, .pointer (some ⟨p161, 0, none⟩)), (112, .bool true)] (by kernel_rfl) rfl (ak (okc (hs230.cell 5 rfl (by kernel_rfl)) ok0) ak0) ?_
                have hs234 : St W ((Cel p161 #[.map (some r162)] 89) :: (MapA Value.string Value.string r162 mA) :: (Cel p157 (arrCells LastV.cells tA) 86) :: (Cel b215 (LastV.cells (tA.getD (Int.toNat (client - 1)) dLast)) 41) :: (Cel b152 (arrCells LastV.cells tA) 76) :: (Cel b166 #[.slice adr ((lst mA).length) cr] 68) :: (Sl adr cr 61 2 ItemV.cells (lst mA)) :: (Base W) :: []) w232 := ((hs230.pull 3 rfl).pull 3 rfl)
                refine GoR.call rfl rfl (by kernel_rfl) (f := 23) (args := #[.pointer (some ⟨p161, 0, none⟩)]) (by kernel_rfl) Tryd.call23 (list_spec mA (Nat.le_trans hr.2.inv.inv.len (by decide)) hs234) ?_
                rintro v238 w239 ⟨ad235, c236, rfl, hs237⟩
                refine ⟨(opl (n := [.cell ⟨b166, 0, none⟩ (.slice adr ((lst mA).length) cr)]) (by kernel_rfl) (okc (hs237.cell 6 rfl (by kernel_rfl)) ok0)), ?_⟩
                refine GoR.call rfl rfl (by kernel_rfl) (f := 25) (args := #[.slice ad235 ((lst mA).length) c236, .slice adr ((lst mA).length) cr]) (by kernel_rfl) Tryd.call25 (same_spec (lst mA) (lst mA) (by rw [lst_length]; exact Nat.le_trans hr.2.inv.inv.len (by decide)) (by rw [lst_length]; exact Nat.le_trans hr.2.inv.inv.len (by decide)) (fun w h => h.rows 0 rfl (itemF).size _) (fun w h => h.rows 7 rfl (itemF).size _) hs237) ?_
                rintro v241 w242 ⟨rfl, hs240⟩
                refine ⟨(opn (by kernel_rfl)), ?_⟩
                refine GoR.phaseK [(13, .gen []), (14, .gen [])] [121] [] [(121, .bool (decide ((lst mA) = (lst mA))))] (by kernel_rfl) rfl ak0 ?_
                rcases Bool.eq_false_or_eq_true (decide ((lst mA) = (lst mA))) with h243 | h243
                · refine GoR.setB 121 true (by decide) (by kernel_rfl) h243 ?_
                  have h243' : (lst mA) = (lst mA) := of_decide_eq_true h243
                  refine GoR.call rfl rfl (by kernel_rfl) (f := 14) (args := #[]) (by kernel_rfl) Tryd.call14 (works10_spec (fun w h => hLW.base h 8 rfl) hs240) ?_
                  rintro v245 w246 ⟨rfl, hs244⟩
                  refine ⟨(opn (by kernel_rfl)), ?_⟩
                  refine GoR.phaseK [(16, .gen []), (17, .gen [])] [6] [] [(6, .bool true)] (by kernel_rfl) rfl ak0 ?_
                  refine GoR.done (GoQ.thn (GoC.ret ?_))
                  refine GoQ.done (.inl rfl) (v := .bool true) (fun a hf => results1 rfl (by kernel_rfl) a hf) ?_
                  exact ⟨rfl, hs244.below 8 rfl⟩
                · refine GoR.setB 121 false (by decide) (by kernel_rfl) h243 ?_
                  have h243' : ¬ ((lst mA) = (lst mA)) := of_decide_eq_false h243
                  exact absurd h243 (by simp)
              · refine GoR.setB 112 false (by decide) (by kernel_rfl) h233 ?_
                have h233' : ¬ (tlast tA client = (tA.getD (Int.toNat (client - 1)) dLast)) := of_decide_eq_false h233
                exact absurd h233 (by first | (rw [tlast_in (by omega) (by omega)]; simp; done) | (rw [tlast_out hcl]; simp; done))
            · have hcl : ¬ (1 ≤ client ∧ client ≤ 8) := fun hc => absurd ((Bool.and_eq_true_iff.2 ⟨decide_eq_true hc.1, decide_eq_true hc.2⟩).symm.trans h223) (by decide)
              refine GoC.skip (GoQ.thn (GoC.seq ?_))
              refine GoC.regD [0, 0, 3, 0, 15, 31, 63, 127, 63, 319, 831, 1855, 4095, 8191, 16383, 32767, 65535, 131071] (.rd 0 (.rd 1 (.rd 3 (.ef 2 (.rd 4 (.rd 5 (.rd 6 (.rd 8 (.rd 9 (.rd 10 (.rd 11 (.ef 7 (.ef 12 (.rd 13 (.rd 14 (.ef 15 (.rd 16 (.rd 17 .done)))))))))))))))))) (by kernel_rfl) (by kernel_rfl) noPan_body (by kernel_rfl) hs222 ?_
              intro w247 hs248 hw249
              refine GoR.phaseK [(0, .gen []), (1, .gen []), (3, .agg #[.int .u64 0, .int .i64 0, .string (⟨#[]⟩ : ByteArray)])] [110, 108, 107, 11, 12] [(3, [.prop (Array.size (#[.int .u64 0, .int .i64 0, .string (⟨#[]⟩ : ByteArray)] : Array Value) = 3), .cells ⟨b215, 0, none⟩ #[.int .u64 0, .int .i64 0, .string (⟨#[]⟩ : ByteArray)]])] [(110, .agg #[.int .u64 0, .int .i64 0, .string (⟨#[]⟩ : ByteArray)]), (108, .int .i64 client), (107, .pointer (some ⟨p157, 0, none⟩)), (11, .pointer (some ⟨p161, 0, none⟩)), (12, .pointer (some ⟨b166, 0, none⟩))] (by kernel_rfl) rfl (ak (okp (by kernel_rfl) (oka (hs248.cells 0 0 rfl (by kernel_rfl)) ok0)) ak0) ?_
              have hs250 : St W ((Cel p157 (arrCells LastV.cells tA) 86) :: (Cel b215 #[.int .u64 0, .int .i64 0, .string (⟨#[]⟩ : ByteArray)] 41) :: (Cel p161 #[.map (some r162)] 89) :: (MapA Value.string Value.string r162 mA) :: (Cel b152 (arrCells LastV.cells tA) 76) :: (Cel b166 #[.slice adr ((lst mA).length) cr] 68) :: (Sl adr cr 61 2 ItemV.cells (lst mA)) :: (Base W) :: []) w247 := (hs248.pull 1 rfl)
              refine GoR.call rfl rfl (by kernel_rfl) (f := 18) (args := #[.pointer (some ⟨p157, 0, none⟩), .int .i64 client]) (by kernel_rfl) Tryd.call18 (tlast_spec tA client hr.2.inv.len hs250) ?_
              rintro v252 w253 ⟨rfl, hs251⟩
              refine ⟨(opl (n := [.prop (Array.size (#[.int .u64 0, .int .i64 0, .string (⟨#[]⟩ : ByteArray)] : Array Value) = 3), .cells ⟨b215, 0, none⟩ #[.int .u64 0, .int .i64 0, .string (⟨#[]⟩ : ByteArray)]]) (by kernel_rfl) (okp (by kernel_rfl) (oka (hs251.cells 1 0 rfl (by kernel_rfl)) ok0))), ?_⟩
              refine GoR.eqAgg rfl (by kernel_rfl) (b := true) (t := 41) (xs := LastV.cells (tlast tA client)) (ys := LastV.cells (⟨0, ⟨0, (⟨#[]⟩ : ByteArray)⟩⟩ : LastV)) (m := 3) (by kernel_rfl) (by kernel_rfl) (by decide) (by kernel_rfl) (r := decide (tlast tA client = (⟨0, ⟨0, (⟨#[]⟩ : ByteArray)⟩⟩ : LastV))) (aggEq  (lastEq (tlast tA client) (⟨0, ⟨0, (⟨#[]⟩ : ByteArray)⟩⟩ : LastV))) ?_
              refine GoR.phaseK [(5, .gen [])] [112, 11, 12] [] [(112, .bool (decide (tlast tA client = (⟨0, ⟨0, (⟨#[]⟩ : ByteArray)⟩⟩ : LastV)))), (11, .pointer (some ⟨p161, 0, none⟩)), (12, .pointer (some ⟨b166, 0, none⟩))] (by kernel_rfl) rfl ak0 ?_
              rcases Bool.eq_false_or_eq_true (decide (tlast tA client = (⟨0, ⟨0, (⟨#[]⟩ : ByteArray)⟩⟩ : LastV))) with h254 | h254
              · refine GoR.setB 112 true (by decide) (by kernel_rfl) h254 ?_
                have h254' : tlast tA client = (⟨0, ⟨0, (⟨#[]⟩ : ByteArray)⟩⟩ : LastV) := of_decide_eq_true h254
                refine GoR.phaseK [(6, .gen []), (8, .gen []), (9, .gen []), (10, .gen []), (11, .gen [.slice adr ((lst mA).length) cr])] [118, 113, 112] [(11, [.cell ⟨b166, 0, none⟩ (.slice adr ((lst mA).length) cr)])] [(118, .slice adr ((lst mA).length) cr), (113, .pointer (some ⟨p161, 0, none⟩)), (112, .bool true)] (by kernel_rfl) rfl (ak (okc (hs251.cell 5 rfl (by kernel_rfl)) ok0) ak0) ?_
                have hs255 : St W ((Cel p161 #[.map (some r162)] 89) :: (MapA Value.string Value.string r162 mA) :: (Cel p157 (arrCells LastV.cells tA) 86) :: (Cel b215 #[.int .u64 0, .int .i64 0, .string (⟨#[]⟩ : ByteArray)] 41) :: (Cel b152 (arrCells LastV.cells tA) 76) :: (Cel b166 #[.slice adr ((lst mA).length) cr] 68) :: (Sl adr cr 61 2 ItemV.cells (lst mA)) :: (Base W) :: []) w253 := ((hs251.pull 3 rfl).pull 3 rfl)
                refine GoR.call rfl rfl (by kernel_rfl) (f := 23) (args := #[.pointer (some ⟨p161, 0, none⟩)]) (by kernel_rfl) Tryd.call23 (list_spec mA (Nat.le_trans hr.2.inv.inv.len (by decide)) hs255) ?_
                rintro v259 w260 ⟨ad256, c257, rfl, hs258⟩
                refine ⟨(opl (n := [.cell ⟨b166, 0, none⟩ (.slice adr ((lst mA).length) cr)]) (by kernel_rfl) (okc (hs258.cell 6 rfl (by kernel_rfl)) ok0)), ?_⟩
                refine GoR.call rfl rfl (by kernel_rfl) (f := 25) (args := #[.slice ad256 ((lst mA).length) c257, .slice adr ((lst mA).length) cr]) (by kernel_rfl) Tryd.call25 (same_spec (lst mA) (lst mA) (by rw [lst_length]; exact Nat.le_trans hr.2.inv.inv.len (by decide)) (by rw [lst_length]; exact Nat.le_trans hr.2.inv.inv.len (by decide)) (fun w h => h.rows 0 rfl (itemF).size _) (fun w h => h.rows 7 rfl (itemF).size _) hs258) ?_
                rintro v262 w263 ⟨rfl, hs261⟩
                refine ⟨(opn (by kernel_rfl)), ?_⟩
                refine GoR.phaseK [(13, .gen []), (14, .gen [])] [121] [] [(121, .bool (decide ((lst mA) = (lst mA))))] (by kernel_rfl) rfl ak0 ?_
                rcases Bool.eq_false_or_eq_true (decide ((lst mA) = (lst mA))) with h264 | h264
                · refine GoR.setB 121 true (by decide) (by kernel_rfl) h264 ?_
                  have h264' : (lst mA) = (lst mA) := of_decide_eq_true h264
                  refine GoR.call rfl rfl (by kernel_rfl) (f := 14) (args := #[]) (by kernel_rfl) Tryd.call14 (works10_spec (fun w h => hLW.base h 8 rfl) hs261) ?_
                  rintro v266 w267 ⟨rfl, hs265⟩
                  refine ⟨(opn (by kernel_rfl)), ?_⟩
                  refine GoR.phaseK [(16, .gen []), (17, .gen [])] [6] [] [(6, .bool true)] (by kernel_rfl) rfl ak0 ?_
                  refine GoR.done (GoQ.thn (GoC.ret ?_))
                  refine GoQ.done (.inl rfl) (v := .bool true) (fun a hf => results1 rfl (by kernel_rfl) a hf) ?_
                  exact ⟨rfl, hs265.below 8 rfl⟩
                · refine GoR.setB 121 false (by decide) (by kernel_rfl) h264 ?_
                  have h264' : ¬ ((lst mA) = (lst mA)) := of_decide_eq_false h264
                  exact absurd h264 (by simp)
              · refine GoR.setB 112 false (by decide) (by kernel_rfl) h254 ?_
                have h254' : ¬ (tlast tA client = (⟨0, ⟨0, (⟨#[]⟩ : ByteArray)⟩⟩ : LastV)) := of_decide_eq_false h254
                exact absurd h254 (by first | (rw [tlast_in (by omega) (by omega)]; simp; done) | (rw [tlast_out hcl]; simp; done))
end Go.Proofs.YtkeckbgkhpaofaaDoor
