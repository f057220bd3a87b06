/-
  The walk of LedgerPlays.
-/
import Derived.Test.YtkeckbgkhpaofaaDoorProg
import Derived.Test.YtkeckbgkhpaofaaDoorLawR
import Derived.Test.YtkeckbgkhpaofaaDoorSxQ
namespace Go.Proofs.YtkeckbgkhpaofaaDoor
open Go.RowKit Go.Sx
set_option linter.unusedVariables false
set_option linter.unusedSimpArgs false
set_option linter.unnecessarySimpa false
set_option maxRecDepth 100000
theorem lst_nil : lst ([] : List (ByteArray × ByteArray)) = [] := List.eq_nil_of_length_eq_zero (by rw [lst_length]; rfl)
theorem plays_walk (W : World) (hLW : Laid W) (adi : Option Addr) (ci : Nat) (items : List ItemV) (ad : Option Addr) (c : Nat) (l : List OpV) (hoki : ∀ q ∈ items, ItemV.OK q) (hok : ∀ q ∈ l, OpV.OK q) (hni : adi = none → ci = 0) (hli : items.length ≤ 140737488351232) (hln : l.length ≤ 140737488351232) (rw1 : RowsAt W adi items.length 2 (fun k => ItemV.cells (items.getD k dItem))) (rw2 : RowsAt W ad l.length 6 (fun k => OpV.cells (l.getD k dOp))) : Calls Tryd.prog 7 #[.slice adi items.length ci, .slice ad l.length c] W (Ret fun rv w' => rv = .bool true ∧ Below W.heap.size W w') := by
  refine enter (args := [.slice adi items.length ci, .slice ad l.length c]) Tryd.func7 rfl Tryd.ntmps7 (Nat.le_of_ble_eq_true (by kernel_rfl)) ?_
  refine GoC.slots (S' := [(0, .slice adi items.length ci), (1, .slice ad l.length c)]) rfl ?_
  refine GoC.seq ?_
  refine GoC.regT [1] (.rd 0 .done) (by kernel_rfl) (by kernel_rfl) ?_
  refine GoR.phaseK [(0, .gen [])] [4, 0, 1] [] [(4, .bool false), (0, .slice adi items.length ci), (1, .slice ad l.length c)] (by kernel_rfl) rfl ak0 ?_
  refine GoR.done (GoQ.thn (GoC.seq (GoC.seq ?_)))
  refine GoC.regT [255, 255, 255, 255, 255, 255, 255, 255] (.rd 0 (.ef 1 (.rd 2 (.rd 3 (.rd 4 (.rd 5 (.rd 6 (.rd 7 .done)))))))) (by kernel_rfl) (by kernel_rfl) ?_
  refine GoR.phaseK [(0, .gen [])] [13, 4, 0, 1] [] [(13, .slice ad l.length c), (4, .bool false), (0, .slice adi items.length ci), (1, .slice ad l.length c)] (by kernel_rfl) rfl ak0 ?_
  refine GoR.call rfl rfl (by kernel_rfl) (f := 20) (args := #[.slice ad l.length c]) (by kernel_rfl) Tryd.call20 (few_spec l (fun q hq => (hok q hq).small) (by omega) (fun w h => rw2.base (fun k _ => (opF).size _) h 0 rfl) (St.start W)) ?_
  rintro v2 w3 ⟨rfl, hs1⟩
  refine ⟨(opn (by kernel_rfl)), ?_⟩
  refine GoR.phaseK [(2, .gen []), (3, .gen [])] [16, 4, 0, 1] [] [(16, .bool (!(few l))), (4, .bool false), (0, .slice adi items.length ci), (1, .slice ad l.length c)] (by kernel_rfl) rfl ak0 ?_
  rcases Bool.eq_false_or_eq_true (!(few l)) with h4 | h4
  · refine GoR.setB 16 true (by decide) (by kernel_rfl) h4 ?_
    have h4n : (few l) = false := notT h4
    refine GoR.phaseK [(4, .gen []), (5, .gen []), (6, .gen []), (7, .gen [])] [20, 4, 0, 1] [] [(20, .bool true), (4, .bool false), (0, .slice adi items.length ci), (1, .slice ad l.length c)] (by kernel_rfl) rfl ak0 ?_
    refine GoR.done (GoQ.thn (GoC.condT (by kernel_rfl) (GoC.seq ?_)))
    refine GoC.regT [3, 3] (.ef 0 (.rd 1 .done)) (by kernel_rfl) (by kernel_rfl) ?_
    refine GoR.call rfl rfl (by kernel_rfl) (f := 21) (args := #[]) (by kernel_rfl) Tryd.call21 (works_spec (fun w h => hLW.base h 0 rfl) hs1) ?_
    rintro v6 w7 ⟨rfl, hs5⟩
    refine ⟨(opn (by kernel_rfl)), ?_⟩
    refine GoR.phaseK [(1, .gen [])] [4, 0, 1] [] [(4, .bool true), (0, .slice adi items.length ci), (1, .slice ad l.length c)] (by kernel_rfl) rfl ak0 ?_
    refine GoR.done (GoQ.thn (GoC.ret (GoQ.skipCR ?_)))
    refine GoQ.done (.inl rfl) (v := .bool true) (fun a hf => results1 rfl (by kernel_rfl) a hf) ?_
    exact ⟨rfl, hs5.below 0 rfl⟩
  · refine GoR.setB 16 false (by decide) (by kernel_rfl) h4 ?_
    have h4n : (few l) = true := notF h4
    refine GoR.phaseK [(4, .gen []), (5, .gen []), (6, .gen []), (7, .gen [])] [20, 4, 0, 1] [] [(20, .bool (decide (((items.length : Nat) : Int) > 100))), (4, .bool false), (0, .slice adi items.length ci), (1, .slice ad l.length c)] (by kernel_rfl) rfl ak0 ?_
    refine GoR.done (GoQ.thn ?_)
    refine GoC.cond (t := decide (((items.length : Nat) : Int) > 100)) (by kernel_rfl) (fun h8 => ?_) (fun h8 => ?_)
    · have h8' : ((items.length : Nat) : Int) > 100 := of_decide_eq_true h8
      refine GoC.seq ?_
      refine GoC.regT [3, 3] (.ef 0 (.rd 1 .done)) (by kernel_rfl) (by kernel_rfl) ?_
      refine GoR.call rfl rfl (by kernel_rfl) (f := 21) (args := #[]) (by kernel_rfl) Tryd.call21 (works_spec (fun w h => hLW.base h 0 rfl) hs1) ?_
      rintro v10 w11 ⟨rfl, hs9⟩
      refine ⟨(opn (by kernel_rfl)), ?_⟩
      refine GoR.phaseK [(1, .gen [])] [4, 0, 1] [] [(4, .bool true), (0, .slice adi items.length ci), (1, .slice ad l.length c)] (by kernel_rfl) rfl ak0 ?_
      refine GoR.done (GoQ.thn (GoC.ret (GoQ.skipCR ?_)))
      refine GoQ.done (.inl rfl) (v := .bool true) (fun a hf => results1 rfl (by kernel_rfl) a hf) ?_
      exact ⟨rfl, hs9.below 0 rfl⟩
    · have h8' : ¬ (((items.length : Nat) : Int) > 100) := of_decide_eq_false h8
      refine GoC.skip (GoQ.thn (GoC.seq (GoC.seq ?_)))
      refine GoC.regT [1] (.rd 0 .done) (by kernel_rfl) (by kernel_rfl) ?_
      refine GoR.phaseK [(0, .gen [])] [5, 4, 0, 1] [] [(5, .int .i64 0), (4, .bool false), (0, .slice adi items.length ci), (1, .slice ad l.length c)] (by kernel_rfl) rfl ak0 ?_
      refine GoR.done (GoQ.thn (GoC.block ?_))
      refine GoC.loop (T := Nat) (fun gg => [(0, .slice adi items.length ci), (1, .slice ad l.length c), (5, .int .i64 (gg : Nat))]) (fun gg w => (gg ≤ items.length) ∧ St W ((Base W) :: []) w) (fun gg => items.length - gg) 0 [0, 1, 5] (by kernel_rfl) ⟨Nat.zero_le _, hs1⟩ ?_
      rintro k w12 ⟨hp0, hs13⟩
      have hp : k ≤ items.length := hp0
      have hs14 : St W ((Base W) :: []) w12 := hs13
      refine GoC.slots (S' := [(0, .slice adi items.length ci), (1, .slice ad l.length c), (5, .int .i64 (k : Nat))]) rfl ?_
      refine GoC.seq (GoC.seq ?_)
      refine GoC.regT [15, 15, 15, 15] (.rd 0 (.rd 1 (.rd 2 (.rd 3 .done)))) (by kernel_rfl) (by kernel_rfl) ?_
      refine GoR.phaseK [(0, .gen []), (1, .gen []), (2, .gen []), (3, .gen [])] [25, 0, 1, 5] [] [(25, .bool (decide (((k : Nat) : Int) < (items.length : Nat)))), (0, .slice adi items.length ci), (1, .slice ad l.length c), (5, .int .i64 (k : Nat))] (by kernel_rfl) rfl ak0 ?_
      refine GoR.done (GoQ.thn ?_)
      refine GoC.cond (t := decide (((k : Nat) : Int) < (items.length : Nat))) (by kernel_rfl) (fun h15 => ?_) (fun h15 => ?_)
      · have h15' : ((k : Nat) : Int) < (items.length : Nat) := of_decide_eq_true h15
        have hk : k < items.length := by omega
        have hx := hoki _ (getD_mem (d := dItem) hk)
        have hx1 := hx.key
        have hx2 := hx.value
        obtain ⟨ab16, ao17, rfl⟩ := RowsAt.isSome rw1 (by omega)
        refine GoC.skip (GoQ.thn (GoC.seq (GoC.block (GoC.seq ?_))))
        refine GoC.regD [0, 0, 3, 7, 15, 31, 0, 0, 192, 448, 960, 1984, 4095, 8191] (.rd 0 (.rd 1 (.rd 2 (.rd 3 (.rd 4 (.rd 5 (.rd 6 (.rd 7 (.rd 8 (.rd 9 (.rd 10 (.rd 11 (.rd 12 (.rd 13 .done)))))))))))))) (by kernel_rfl) (by kernel_rfl) noPan_body (by kernel_rfl) hs14 ?_
        intro w18 hs19 hw20
        refine GoR.phaseK [(0, .gen []), (1, .gen []), (2, .as_ (.pointer (some ⟨ab16, ao17 + (k * 2), none⟩)) .at_), (3, .gen []), (4, .gen [.string ((items.getD k dItem).key)]), (5, .gen []), (6, .gen []), (7, .gen []), (8, .as_ (.pointer (some ⟨ab16, ao17 + (k * 2), none⟩)) .at_), (9, .gen []), (10, .gen [.string ((items.getD k dItem).value)]), (11, .gen []), (12, .as_ (.int .i64 ((((items.getD k dItem).key).size : Nat) + (((items.getD k dItem).value).size : Nat))) (.gen [])), (13, .gen [])] [41, 0, 1, 5] [(2, [.prop (0 ≤ ((k : Nat) : Int) ∧ ((k : Nat) : Int) < ((items.length : Nat) : Int)), .prop (Value.pointer (some (Addr.add ⟨ab16, ao17, none⟩ (Int.toNat (k : Nat) * 2))) = Value.pointer (some ⟨ab16, ao17 + (k * 2), none⟩))]), (4, [.cell ⟨ab16, ao17 + (k * 2), none⟩ (.string ((items.getD k dItem).key))]), (8, [.prop (0 ≤ ((k : Nat) : Int) ∧ ((k : Nat) : Int) < ((items.length : Nat) : Int)), .prop (Value.pointer (some (Addr.add ⟨ab16, ao17, none⟩ (Int.toNat (k : Nat) * 2))) = Value.pointer (some ⟨ab16, ao17 + (k * 2), none⟩))]), (10, [.cell ⟨ab16, ao17 + (k * 2) + 1, none⟩ (.string ((items.getD k dItem).value))]), (12, [.prop (Value.int .i64 (IntKind.i64.wrap ((((items.getD k dItem).key).size : Nat) + (((items.getD k dItem).value).size : Nat))) = Value.int .i64 ((((items.getD k dItem).key).size : Nat) + (((items.getD k dItem).value).size : Nat)))])] [(41, .bool (decide (((((items.getD k dItem).key).size : Nat) + (((items.getD k dItem).value).size : Nat) : Int) > 1000))), (0, .slice (some ⟨ab16, ao17, none⟩) items.length ci), (1, .slice ad l.length c), (5, .int .i64 (k : Nat))] (by kernel_rfl) rfl (ak (okp (by omega) (okp (ptrAdd _ _ _) ok0)) (ak (okc (RowsAt.at0 (rw1.base (fun k _ => (itemF).size _) hs19 0 rfl) (by first | omega | (simp only [List.length_set]; omega)) (j := 0) (by decide) (by kernel_rfl)) ok0) (ak (okp (by omega) (okp (ptrAdd _ _ _) ok0)) (ak (okc (RowsAt.at0 (rw1.base (fun k _ => (itemF).size _) hs19 0 rfl) (by first | omega | (simp only [List.length_set]; omega)) (j := 1) (by decide) (by kernel_rfl)) ok0) (ak (okp (i64ok (by omega) (by omega)) ok0) ak0))))) ?_
        refine GoR.done (GoQ.thn ?_)
        refine GoC.cond (t := decide (((((items.getD k dItem).key).size : Nat) + (((items.getD k dItem).value).size : Nat) : Int) > 1000)) (by kernel_rfl) (fun h21 => ?_) (fun h21 => ?_)
        · have h21' : ((((items.getD k dItem).key).size : Nat) + (((items.getD k dItem).value).size : Nat) : Int) > 1000 := of_decide_eq_true h21
          refine GoC.seq ?_
          refine GoC.regT [3, 3] (.ef 0 (.rd 1 .done)) (by kernel_rfl) (by kernel_rfl) ?_
          refine GoR.call rfl rfl (by kernel_rfl) (f := 21) (args := #[]) (by kernel_rfl) Tryd.call21 (works_spec (fun w h => hLW.base h 0 rfl) hs19) ?_
          rintro v23 w24 ⟨rfl, hs22⟩
          refine ⟨(opn (by kernel_rfl)), ?_⟩
          refine GoR.phaseK [(1, .gen [])] [4, 0, 1, 5] [] [(4, .bool true), (0, .slice (some ⟨ab16, ao17, none⟩) items.length ci), (1, .slice ad l.length c), (5, .int .i64 (k : Nat))] (by kernel_rfl) rfl ak0 ?_
          refine GoR.done (GoQ.thn (GoC.ret (GoQ.blkR (GoQ.skipCR (GoQ.skipLR (GoQ.blkR (GoQ.skipCR ?_)))))))
          refine GoQ.done (.inl rfl) (v := .bool true) (fun a hf => results1 rfl (by kernel_rfl) a hf) ?_
          exact ⟨rfl, hs22.below 0 rfl⟩
        · have h21' : ¬ (((((items.getD k dItem).key).size : Nat) + (((items.getD k dItem).value).size : Nat) : Int) > 1000) := of_decide_eq_false h21
          refine GoC.skip (GoQ.blkN (GoQ.thn ?_))
          refine GoC.regT [7, 7, 7] (.rd 0 (.rd 1 (.rd 2 .done))) (by kernel_rfl) (by kernel_rfl) ?_
          refine GoR.phaseK [(0, .gen []), (1, .as_ (.int .i64 ((k : Nat) + 1)) (.gen [])), (2, .gen [])] [5, 0, 1] [(1, [.prop (Value.int .i64 (IntKind.i64.wrap ((k : Nat) + 1)) = Value.int .i64 ((k : Nat) + 1))])] [(5, .int .i64 ((k : Nat) + 1)), (0, .slice (some ⟨ab16, ao17, none⟩) items.length ci), (1, .slice ad l.length c)] (by kernel_rfl) rfl (ak (okp (i64ok (by omega) (by omega)) ok0) ak0) ?_
          refine GoR.done ?_
          exact GoQ.back (k + 1) [0, 1, 5] (by kernel_rfl) (by show items.length - (k + 1) < items.length - k; omega) ⟨by omega, hs19⟩
      · have h15' : ¬ (((k : Nat) : Int) < (items.length : Nat)) := of_decide_eq_false h15
        refine GoC.exit (GoQ.skipC (GoQ.skipL (GoQ.hit (GoQ.thn (GoC.seq ?_)))))
        refine GoC.regT [511, 511, 511, 511, 511, 511, 511, 511, 511] (.ef 0 (.rd 1 (.ef 2 (.ef 3 (.rd 4 (.rd 5 (.rd 6 (.rd 7 (.rd 8 .done))))))))) (by kernel_rfl) (by kernel_rfl) ?_
        refine GoR.sliceLit0 rfl (by kernel_rfl) (t := 49) (e := 61) (by kernel_rfl) (by kernel_rfl) (ti := Tryd.t61) (by kernel_rfl) hs14 ?_
        intro b25 w26 hs27 hz28
        have hs29 : St W ((Sl (some ⟨b25, 0, none⟩) 0 61 2 ItemV.cells ([] : List ItemV)) :: (Base W) :: []) w26 := St.slOf (l := ([] : List ItemV)) (f := ItemV.cells) hs27 hz28 (itemF).size (by simp only [List.length_cons, List.length_nil, maxLen]; omega) (by kernel_rfl)
        refine ⟨(opn (by kernel_rfl)), ?_⟩
        refine GoR.phaseK [(1, .gen [])] [45, 44, 0, 1] [] [(45, .slice adi items.length ci), (44, .slice (some ⟨b25, 0, none⟩) 0 0), (0, .slice adi items.length ci), (1, .slice ad l.length c)] (by kernel_rfl) rfl ak0 ?_
        refine GoR.append rfl (by kernel_rfl) itemsOK itemF (ad := some ⟨b25, 0, none⟩) (c := 0) (xs := ([] : List ItemV)) (ys := items) (adx := adi) (cx := ci) dItem (by kernel_rfl) hs29 (rw1.base (fun k _ => (itemF).size _) hs29 1 rfl) hni (by simp only [List.length_nil]; omega) (by simp only [List.length_nil]; omega) ?_
        intro ad32 c33 w30 hs31
        refine ⟨(opn (by kernel_rfl)), ?_⟩
        refine GoR.call rfl rfl (by kernel_rfl) (f := 29) (args := #[.slice ad32 items.length c33]) (by kernel_rfl) Tryd.call29 (of_spec items (by omega) (fun w h => h.rows 0 rfl (itemF).size _) hs31) ?_
        rintro v40 w41 (⟨p34, r35, rfl, h36, hs37⟩ | ⟨rfl, h38, hs39⟩)
        · refine ⟨(opn (by kernel_rfl)), ?_⟩
          refine GoR.phaseK [(4, .gen []), (5, .gen []), (6, .gen []), (7, .gen []), (8, .gen [])] [7, 6, 0, 1] [] [(7, .int .i64 0), (6, .pointer (some ⟨p34, 0, none⟩)), (0, .slice adi items.length ci), (1, .slice ad l.length c)] (by kernel_rfl) rfl ak0 ?_
          refine GoR.done (GoQ.thn (GoC.seq ?_))
          refine GoC.regT [127, 127, 127, 127, 127, 127, 127] (.rd 0 (.ef 1 (.rd 2 (.rd 3 (.rd 4 (.rd 5 (.rd 6 .done))))))) (by kernel_rfl) (by kernel_rfl) ?_
          refine GoR.phaseK [(0, .gen [])] [51, 7, 6, 1] [] [(51, .slice adi items.length ci), (7, .int .i64 0), (6, .pointer (some ⟨p34, 0, none⟩)), (1, .slice ad l.length c)] (by kernel_rfl) rfl ak0 ?_
          refine GoR.call rfl rfl (by kernel_rfl) (f := 30) (args := #[.slice adi items.length ci]) (by kernel_rfl) Tryd.call30 (rof_spec items (by omega) hni (fun w h => rw1.base (fun k _ => (itemF).size _) h 3 rfl) hs37) ?_
          rintro v49 w50 (⟨q42, ad43, c44, rfl, h45, hs46⟩ | ⟨rfl, h47, hs48⟩)
          · refine ⟨(opn (by kernel_rfl)), ?_⟩
            refine GoR.phaseK [(2, .gen []), (3, .gen []), (4, .gen []), (5, .gen []), (6, .gen [])] [9, 8, 7, 6, 1] [] [(9, .int .i64 0), (8, .pointer (some ⟨q42, 0, none⟩)), (7, .int .i64 0), (6, .pointer (some ⟨p34, 0, none⟩)), (1, .slice ad l.length c)] (by kernel_rfl) rfl ak0 ?_
            refine GoR.done (GoQ.thn (GoC.seq (GoC.seq ?_)))
            refine GoC.regT [1023, 1023, 1023, 1023, 1023, 1023, 1023, 1023, 1023, 1023] (.rd 0 (.rd 1 (.rd 2 (.rd 3 (.rd 4 (.rd 5 (.rd 6 (.rd 7 (.rd 8 (.rd 9 .done)))))))))) (by kernel_rfl) (by kernel_rfl) ?_
            refine GoR.phaseK [(0, .gen []), (1, .gen []), (2, .gen []), (3, .gen []), (4, .gen []), (5, .gen []), (6, .gen []), (7, .gen []), (8, .gen []), (9, .gen [])] [64, 9, 8, 6, 1] [] [(64, .bool false), (9, .int .i64 0), (8, .pointer (some ⟨q42, 0, none⟩)), (6, .pointer (some ⟨p34, 0, none⟩)), (1, .slice ad l.length c)] (by kernel_rfl) rfl ak0 ?_
            refine GoR.done (GoQ.thn (GoC.condF (by kernel_rfl) (GoC.skip (GoQ.thn (GoC.seq (GoC.seq ?_))))))
            refine GoC.regT [3, 3] (.rd 0 (.rd 1 .done)) (by kernel_rfl) (by kernel_rfl) ?_
            refine GoR.phaseK [(0, .gen []), (1, .gen [])] [66, 8, 6, 1] [] [(66, .bool false), (8, .pointer (some ⟨q42, 0, none⟩)), (6, .pointer (some ⟨p34, 0, none⟩)), (1, .slice ad l.length c)] (by kernel_rfl) rfl ak0 ?_
            refine GoR.done (GoQ.thn (GoC.condF (by kernel_rfl) (GoC.skip (GoQ.thn (GoC.seq (GoC.seq ?_))))))
            refine GoC.regT [1] (.rd 0 .done) (by kernel_rfl) (by kernel_rfl) ?_
            refine GoR.phaseK [(0, .gen [])] [10, 8, 6, 1] [] [(10, .int .i64 0), (8, .pointer (some ⟨q42, 0, none⟩)), (6, .pointer (some ⟨p34, 0, none⟩)), (1, .slice ad l.length c)] (by kernel_rfl) rfl ak0 ?_
            refine GoR.done (GoQ.thn (GoC.block ?_))
            have hs51 : St W ((Sl ad32 c33 61 2 ItemV.cells items) :: (Cel p34 #[.map (some r35)] 89) :: (MapA Value.string Value.string r35 (pairsOf items)) :: (Cel q42 #[.slice ad43 items.length c44] 68) :: (Sl ad43 c44 61 2 ItemV.cells items) :: (Base W) :: []) w50 := ((((((hs46.pull 5 rfl).pull 2 rfl).pull 2 rfl).pull 4 rfl).pull 4 rfl).pull 5 rfl)
            have hs52 : St W ((Cel p34 #[.map (some r35)] 89) :: (MapA Value.string Value.string r35 (pairsOf items)) :: (Cel q42 #[.slice ad43 items.length c44] 68) :: (Sl ad43 c44 61 2 ItemV.cells items) :: (Base W) :: []) w50 := hs51.drop 1
            have hs53 : St W ((Cel p34 #[.map (some r35)] 89) :: (MapA Value.string Value.string r35 (pairsOf items)) :: (Cel q42 #[.slice ad43 ((lst (pairsOf items)).length) c44] 68) :: (Sl ad43 c44 61 2 ItemV.cells (lst (pairsOf items))) :: (Base W) :: []) w50 := by rw [lst_pairsOf (by assumption)]; exact hs52
            refine GoC.loop (T := Nat × (Option Addr) × Nat) (fun gg => [(1, .slice ad l.length c), (6, .pointer (some ⟨p34, 0, none⟩)), (8, .pointer (some ⟨q42, 0, none⟩)), (10, .int .i64 (gg.1 : Nat))]) (fun gg w => (gg.1 ≤ l.length) ∧ St W ((Cel p34 #[.map (some r35)] 89) :: (MapA Value.string Value.string r35 (lfrom (pairsOf items) (l.take gg.1))) :: (Cel q42 #[.slice gg.2.1 ((lst (lfrom (pairsOf items) (l.take gg.1))).length) gg.2.2] 68) :: (Sl gg.2.1 gg.2.2 61 2 ItemV.cells (lst (lfrom (pairsOf items) (l.take gg.1)))) :: (Base W) :: []) w) (fun gg => l.length - gg.1) (0, ad43, c44) [1, 6, 8, 10] (by kernel_rfl) ⟨Nat.zero_le _, hs53⟩ ?_
            rintro ⟨k, adr, cr⟩ w54 ⟨hp0, hs55⟩
            have hp : k ≤ l.length := hp0
            have hs56 : St W ((Cel p34 #[.map (some r35)] 89) :: (MapA Value.string Value.string r35 (lfrom (pairsOf items) (l.take k))) :: (Cel q42 #[.slice adr ((lst (lfrom (pairsOf items) (l.take k))).length) cr] 68) :: (Sl adr cr 61 2 ItemV.cells (lst (lfrom (pairsOf items) (l.take k)))) :: (Base W) :: []) w54 := hs55
            refine GoC.slots (S' := [(1, .slice ad l.length c), (6, .pointer (some ⟨p34, 0, none⟩)), (8, .pointer (some ⟨q42, 0, none⟩)), (10, .int .i64 (k : Nat))]) rfl ?_
            refine GoC.seq (GoC.seq ?_)
            refine GoC.regT [15, 15, 15, 15] (.rd 0 (.rd 1 (.rd 2 (.rd 3 .done)))) (by kernel_rfl) (by kernel_rfl) ?_
            refine GoR.phaseK [(0, .gen []), (1, .gen []), (2, .gen []), (3, .gen [])] [73, 1, 6, 8, 10] [] [(73, .bool (decide (((k : Nat) : Int) < (l.length : Nat)))), (1, .slice ad l.length c), (6, .pointer (some ⟨p34, 0, none⟩)), (8, .pointer (some ⟨q42, 0, none⟩)), (10, .int .i64 (k : Nat))] (by kernel_rfl) rfl ak0 ?_
            refine GoR.done (GoQ.thn ?_)
            refine GoC.cond (t := decide (((k : Nat) : Int) < (l.length : Nat))) (by kernel_rfl) (fun h57 => ?_) (fun h57 => ?_)
            · have h57' : ((k : Nat) : Int) < (l.length : Nat) := of_decide_eq_true h57
              have hk : k < l.length := by omega
              obtain ⟨ab58, ao59, rfl⟩ := RowsAt.isSome rw2 (by omega)
              refine GoC.skip (GoQ.thn (GoC.seq (GoC.block (GoC.seq ?_))))
              refine GoC.regD [0, 0, 3, 7, 15, 0, 0, 96, 224, 511, 1023, 2047, 4095, 4095, 4095, 28671, 61439, 131071, 4095, 4095, 4095, 1576959, 3674111, 8388607, 16777215, 33554431, 67108863, 134217727, 268435455, 536870911, 1073741823, 2147483647, 4294967295, 2147483647, 10737418239, 27917287423, 62277025791, 137438953471, 274877906943, 549755813887, 1099511627775] (.rd 0 (.rd 1 (.rd 2 (.rd 3 (.rd 5 (.rd 6 (.rd 7 (.rd 8 (.ef 4 (.ef 9 (.rd 10 (.rd 11 (.rd 12 (.rd 13 (.rd 14 (.rd 15 (.rd 16 (.rd 18 (.rd 19 (.rd 20 (.rd 21 (.rd 22 (.ef 17 (.ef 23 (.rd 24 (.rd 25 (.rd 26 (.rd 27 (.rd 28 (.rd 29 (.rd 30 (.rd 31 (.rd 33 (.rd 34 (.rd 35 (.rd 36 (.ef 32 (.ef 37 (.rd 38 (.rd 39 (.rd 40 .done))))))))))))))))))))))))))))))))))))))))) (by kernel_rfl) (by kernel_rfl) noPan_body (by kernel_rfl) hs56 ?_
              intro w60 hs61 hw62
              refine GoR.phaseK [(0, .gen []), (1, .gen []), (2, .as_ (.pointer (some ⟨ab58, ao59 + (k * 6), none⟩)) .at_), (3, .agg (OpV.cells (l.getD k dOp))), (5, .gen []), (6, .gen []), (7, .as_ (.pointer (some ⟨ab58, ao59 + (k * 6), none⟩)) .at_), (8, .agg (OpV.cells (l.getD k dOp)))] [84, 79, 1, 6, 8, 10] [(2, [.prop (0 ≤ ((k : Nat) : Int) ∧ ((k : Nat) : Int) < ((l.length : Nat) : Int)), .prop (Value.pointer (some (Addr.add ⟨ab58, ao59, none⟩ (Int.toNat (k : Nat) * 6))) = Value.pointer (some ⟨ab58, ao59 + (k * 6), none⟩))]), (3, [.prop (Array.size (OpV.cells (l.getD k dOp)) = 6), .cells ⟨ab58, ao59 + (k * 6), none⟩ (OpV.cells (l.getD k dOp))]), (7, [.prop (0 ≤ ((k : Nat) : Int) ∧ ((k : Nat) : Int) < ((l.length : Nat) : Int)), .prop (Value.pointer (some (Addr.add ⟨ab58, ao59, none⟩ (Int.toNat (k : Nat) * 6))) = Value.pointer (some ⟨ab58, ao59 + (k * 6), none⟩))]), (8, [.prop (Array.size (OpV.cells (l.getD k dOp)) = 6), .cells ⟨ab58, ao59 + (k * 6), none⟩ (OpV.cells (l.getD k dOp))])] [(84, .agg (OpV.cells (l.getD k dOp))), (79, .agg (OpV.cells (l.getD k dOp))), (1, .slice (some ⟨ab58, ao59, none⟩) l.length c), (6, .pointer (some ⟨p34, 0, none⟩)), (8, .pointer (some ⟨q42, 0, none⟩)), (10, .int .i64 (k : Nat))] (by kernel_rfl) rfl (ak (okp (by omega) (okp (ptrAdd _ _ _) ok0)) (ak (okp (by kernel_rfl) (oka (RowsAt.all0 (rw2.base (fun k _ => (opF).size _) hs61 4 rfl) (by first | omega | (simp only [List.length_set]; omega)) (Nat.le_of_ble_eq_true (by kernel_rfl)) (by kernel_rfl)) ok0)) (ak (okp (by omega) (okp (ptrAdd _ _ _) ok0)) (ak (okp (by kernel_rfl) (oka (RowsAt.all0 (rw2.base (fun k _ => (opF).size _) hs61 4 rfl) (by first | omega | (simp only [List.length_set]; omega)) (Nat.le_of_ble_eq_true (by kernel_rfl)) (by kernel_rfl)) ok0)) ak0)))) ?_
              refine GoR.call rfl rfl (by kernel_rfl) (f := 27) (args := #[.agg (OpV.cells (l.getD k dOp))]) (by kernel_rfl) Tryd.call27 (may_spec (l.getD k dOp)  hs61) ?_
              rintro v64 w65 ⟨rfl, hs63⟩
              refine ⟨(opl (n := [.prop (Array.size (OpV.cells (l.getD k dOp)) = 6), .cells ⟨ab58, ao59 + (k * 6), none⟩ (OpV.cells (l.getD k dOp)), .prop (0 ≤ ((k : Nat) : Int) ∧ ((k : Nat) : Int) < ((l.length : Nat) : Int)), .prop (Value.pointer (some (Addr.add ⟨ab58, ao59, none⟩ (Int.toNat (k : Nat) * 6))) = Value.pointer (some ⟨ab58, ao59 + (k * 6), none⟩))]) (by kernel_rfl) (okp (by kernel_rfl) (oka (RowsAt.all0 (rw2.base (fun k _ => (opF).size _) hs63 4 rfl) (by first | omega | (simp only [List.length_set]; omega)) (Nat.le_of_ble_eq_true (by kernel_rfl)) (by kernel_rfl)) (okp (by omega) (okp (ptrAdd _ _ _) ok0))))), ?_⟩
              refine GoR.call rfl rfl (by kernel_rfl) (f := 31) (args := #[.agg (OpV.cells (l.getD k dOp))]) (by kernel_rfl) Tryd.call31 (rmay_spec (l.getD k dOp)  hs63) ?_
              rintro v67 w68 ⟨rfl, hs66⟩
              refine ⟨(opn (by kernel_rfl)), ?_⟩
              refine GoR.phaseK [(10, .gen []), (11, .gen [])] [87, 1, 6, 8, 10] [] [(87, .bool (!((may (l.getD k dOp)) == (rmay (l.getD k dOp))))), (1, .slice (some ⟨ab58, ao59, none⟩) l.length c), (6, .pointer (some ⟨p34, 0, none⟩)), (8, .pointer (some ⟨q42, 0, none⟩)), (10, .int .i64 (k : Nat))] (by kernel_rfl) rfl ak0 ?_
              rcases Bool.eq_false_or_eq_true (!((may (l.getD k dOp)) == (rmay (l.getD k dOp)))) with h69 | h69
              · refine GoR.setB 87 true (by decide) (by kernel_rfl) h69 ?_
                have h69n : ((may (l.getD k dOp)) == (rmay (l.getD k dOp))) = false := notT h69
                exact absurd h69 (by rw [rmay_eq]; simp)
              · refine GoR.setB 87 false (by decide) (by kernel_rfl) h69 ?_
                have h69n : ((may (l.getD k dOp)) == (rmay (l.getD k dOp))) = true := notF h69
                refine GoR.phaseK [(12, .gen []), (13, .gen []), (14, .gen []), (15, .as_ (.pointer (some ⟨ab58, ao59 + (k * 6), none⟩)) .at_), (16, .agg (OpV.cells (l.getD k dOp))), (18, .gen []), (19, .gen []), (20, .gen []), (21, .as_ (.pointer (some ⟨ab58, ao59 + (k * 6), none⟩)) .at_), (22, .agg (OpV.cells (l.getD k dOp)))] [98, 94, 92, 88, 87, 1, 6, 8, 10] [(15, [.prop (0 ≤ ((k : Nat) : Int) ∧ ((k : Nat) : Int) < ((l.length : Nat) : Int)), .prop (Value.pointer (some (Addr.add ⟨ab58, ao59, none⟩ (Int.toNat (k : Nat) * 6))) = Value.pointer (some ⟨ab58, ao59 + (k * 6), none⟩))]), (16, [.prop (Array.size (OpV.cells (l.getD k dOp)) = 6), .cells ⟨ab58, ao59 + (k * 6), none⟩ (OpV.cells (l.getD k dOp))]), (21, [.prop (0 ≤ ((k : Nat) : Int) ∧ ((k : Nat) : Int) < ((l.length : Nat) : Int)), .prop (Value.pointer (some (Addr.add ⟨ab58, ao59, none⟩ (Int.toNat (k : Nat) * 6))) = Value.pointer (some ⟨ab58, ao59 + (k * 6), none⟩))]), (22, [.prop (Array.size (OpV.cells (l.getD k dOp)) = 6), .cells ⟨ab58, ao59 + (k * 6), none⟩ (OpV.cells (l.getD k dOp))])] [(98, .agg (OpV.cells (l.getD k dOp))), (94, .pointer (some ⟨q42, 0, none⟩)), (92, .agg (OpV.cells (l.getD k dOp))), (88, .pointer (some ⟨p34, 0, none⟩)), (87, .bool false), (1, .slice (some ⟨ab58, ao59, none⟩) l.length c), (6, .pointer (some ⟨p34, 0, none⟩)), (8, .pointer (some ⟨q42, 0, none⟩)), (10, .int .i64 (k : Nat))] (by kernel_rfl) rfl (ak (okp (by omega) (okp (ptrAdd _ _ _) ok0)) (ak (okp (by kernel_rfl) (oka (RowsAt.all0 (rw2.base (fun k _ => (opF).size _) hs66 4 rfl) (by first | omega | (simp only [List.length_set]; omega)) (Nat.le_of_ble_eq_true (by kernel_rfl)) (by kernel_rfl)) ok0)) (ak (okp (by omega) (okp (ptrAdd _ _ _) ok0)) (ak (okp (by kernel_rfl) (oka (RowsAt.all0 (rw2.base (fun k _ => (opF).size _) hs66 4 rfl) (by first | omega | (simp only [List.length_set]; omega)) (Nat.le_of_ble_eq_true (by kernel_rfl)) (by kernel_rfl)) ok0)) ak0)))) ?_
                refine GoR.call rfl rfl (by kernel_rfl) (f := 22) (args := #[.pointer (some ⟨p34, 0, none⟩), .agg (OpV.cells (l.getD k dOp))]) (by kernel_rfl) Tryd.call22 (ldo_spec (lfrom (pairsOf items) (l.take k)) (l.getD k dOp) (lfrom_inv _ (pairsOf_inv (by assumption))).short (fun w h => hLW.base h 2 rfl) (hok _ (getD_mem hk)).amount.1 hs66) ?_
                rintro v71 w72 ⟨rfl, hs70⟩
                refine ⟨(opl (n := [.prop (Array.size (OpV.cells (l.getD k dOp)) = 6), .cells ⟨ab58, ao59 + (k * 6), none⟩ (OpV.cells (l.getD k dOp)), .prop (0 ≤ ((k : Nat) : Int) ∧ ((k : Nat) : Int) < ((l.length : Nat) : Int)), .prop (Value.pointer (some (Addr.add ⟨ab58, ao59, none⟩ (Int.toNat (k : Nat) * 6))) = Value.pointer (some ⟨ab58, ao59 + (k * 6), none⟩))]) (by kernel_rfl) (okp (by kernel_rfl) (oka (RowsAt.all0 (rw2.base (fun k _ => (opF).size _) hs70 4 rfl) (by first | omega | (simp only [List.length_set]; omega)) (Nat.le_of_ble_eq_true (by kernel_rfl)) (by kernel_rfl)) (okp (by omega) (okp (ptrAdd _ _ _) ok0))))), ?_⟩
                have hs73 : St W ((Cel q42 #[.slice adr ((lst (lfrom (pairsOf items) (l.take k))).length) cr] 68) :: (Sl adr cr 61 2 ItemV.cells (lst (lfrom (pairsOf items) (l.take k)))) :: (Cel p34 #[.map (some r35)] 89) :: (MapA Value.string Value.string r35 ((ldo (lfrom (pairsOf items) (l.take k)) (l.getD k dOp)).2)) :: (Base W) :: []) w72 := ((hs70.pull 3 rfl).pull 3 rfl)
                refine GoR.call rfl rfl (by kernel_rfl) (f := 32) (args := #[.pointer (some ⟨q42, 0, none⟩), .agg (OpV.cells (l.getD k dOp))]) (by kernel_rfl) Tryd.call32 (rdo_spec (lst (lfrom (pairsOf items) (l.take k))) (l.getD k dOp) (by rw [lst_length]; exact Nat.le_trans (lfrom_inv _ (pairsOf_inv (by assumption))).len (by decide)) (fun x hx => Nat.le_trans ((lfrom_inv _ (pairsOf_inv (by assumption))).val _ (lst_mem.1 hx)) (by decide)) (hok _ (getD_mem hk)).amount.1 hs73) ?_
                rintro v77 w78 ⟨ad74, c75, rfl, hs76⟩
                refine ⟨(opn (by kernel_rfl)), ?_⟩
                refine GoR.eqAgg rfl (by kernel_rfl) (b := false) (t := 34) (xs := RepV.cells ((ldo (lfrom (pairsOf items) (l.take k)) (l.getD k dOp)).1)) (ys := RepV.cells ((rdo (lst (lfrom (pairsOf items) (l.take k))) (l.getD k dOp)).1)) (m := 2) (by kernel_rfl) (by kernel_rfl) (by decide) (by kernel_rfl) (r := !(decide ((ldo (lfrom (pairsOf items) (l.take k)) (l.getD k dOp)).1 = (rdo (lst (lfrom (pairsOf items) (l.take k))) (l.getD k dOp)).1))) (aggNe  (repEq ((ldo (lfrom (pairsOf items) (l.take k)) (l.getD k dOp)).1) ((rdo (lst (lfrom (pairsOf items) (l.take k))) (l.getD k dOp)).1))) ?_
                refine GoR.phaseK [(25, .gen []), (26, .gen [])] [102, 1, 6, 8, 10] [] [(102, .bool (!(decide ((ldo (lfrom (pairsOf items) (l.take k)) (l.getD k dOp)).1 = (rdo (lst (lfrom (pairsOf items) (l.take k))) (l.getD k dOp)).1)))), (1, .slice (some ⟨ab58, ao59, none⟩) l.length c), (6, .pointer (some ⟨p34, 0, none⟩)), (8, .pointer (some ⟨q42, 0, none⟩)), (10, .int .i64 (k : Nat))] (by kernel_rfl) rfl ak0 ?_
                rcases Bool.eq_false_or_eq_true (!(decide ((ldo (lfrom (pairsOf items) (l.take k)) (l.getD k dOp)).1 = (rdo (lst (lfrom (pairsOf items) (l.take k))) (l.getD k dOp)).1))) with h79 | h79
                · refine GoR.setB 102 true (by decide) (by kernel_rfl) h79 ?_
                  have h79n : (decide ((ldo (lfrom (pairsOf items) (l.take k)) (l.getD k dOp)).1 = (rdo (lst (lfrom (pairsOf items) (l.take k))) (l.getD k dOp)).1)) = false := notT h79
                  have h79n' : ¬ ((ldo (lfrom (pairsOf items) (l.take k)) (l.getD k dOp)).1 = (rdo (lst (lfrom (pairsOf items) (l.take k))) (l.getD k dOp)).1) := of_decide_eq_false h79n
                  exact absurd h79 (by rw [rdo_fst (lfrom_inv _ (pairsOf_inv (by assumption)))]; simp)
                · refine GoR.setB 102 false (by decide) (by kernel_rfl) h79 ?_
                  have h79n : (decide ((ldo (lfrom (pairsOf items) (l.take k)) (l.getD k dOp)).1 = (rdo (lst (lfrom (pairsOf items) (l.take k))) (l.getD k dOp)).1)) = true := notF h79
                  have h79n' : (ldo (lfrom (pairsOf items) (l.take k)) (l.getD k dOp)).1 = (rdo (lst (lfrom (pairsOf items) (l.take k))) (l.getD k dOp)).1 := of_decide_eq_true h79n
                  refine GoR.phaseK [(27, .gen []), (28, .div ((k : Nat) % 8)), (29, .gen []), (30, .gen [])] [106, 102, 1, 6, 8, 10] [(28, [.prop (IntKind.i64 = IntKind.i64 ∧ (8 : Int) ≠ 0 ∧ Int.tmod (k : Nat) 8 = (k : Nat) % 8)])] [(106, .bool ((((k : Nat) % 8) : Int) == 0)), (102, .bool false), (1, .slice (some ⟨ab58, ao59, none⟩) l.length c), (6, .pointer (some ⟨p34, 0, none⟩)), (8, .pointer (some ⟨q42, 0, none⟩)), (10, .int .i64 (k : Nat))] (by kernel_rfl) rfl (ak (okp ⟨rfl, by decide, Int.tmod_eq_emod_of_nonneg (by omega)⟩ ok0) ak0) ?_
                  rcases Bool.eq_false_or_eq_true ((((k : Nat) % 8) : Int) == 0) with h80 | h80
                  · refine GoR.setB 106 true (by decide) (by kernel_rfl) h80 ?_
                    have h80' : ((k : Nat) % 8 : Int) = 0 := ieqT h80
                    refine GoR.phaseK [(31, .gen []), (33, .gen []), (34, .gen []), (35, .gen []), (36, .gen [.slice ad74 (((rdo (lst (lfrom (pairsOf items) (l.take k))) (l.getD k dOp)).2).length) c75])] [112, 107, 106, 102, 1, 6, 8, 10] [(36, [.cell ⟨q42, 0, none⟩ (.slice ad74 (((rdo (lst (lfrom (pairsOf items) (l.take k))) (l.getD k dOp)).2).length) c75)])] [(112, .slice ad74 (((rdo (lst (lfrom (pairsOf items) (l.take k))) (l.getD k dOp)).2).length) c75), (107, .pointer (some ⟨p34, 0, none⟩)), (106, .bool true), (102, .bool false), (1, .slice (some ⟨ab58, ao59, none⟩) l.length c), (6, .pointer (some ⟨p34, 0, none⟩)), (8, .pointer (some ⟨q42, 0, none⟩)), (10, .int .i64 (k : Nat))] (by kernel_rfl) rfl (ak (okc (hs76.cell 0 rfl (by kernel_rfl)) ok0) ak0) ?_
                    have hs81 : St W ((Cel p34 #[.map (some r35)] 89) :: (MapA Value.string Value.string r35 ((ldo (lfrom (pairsOf items) (l.take k)) (l.getD k dOp)).2)) :: (Cel q42 #[.slice ad74 (((rdo (lst (lfrom (pairsOf items) (l.take k))) (l.getD k dOp)).2).length) c75] 68) :: (Sl ad74 c75 61 2 ItemV.cells ((rdo (lst (lfrom (pairsOf items) (l.take k))) (l.getD k dOp)).2)) :: (Base W) :: []) w78 := ((hs76.pull 3 rfl).pull 3 rfl)
                    refine GoR.call rfl rfl (by kernel_rfl) (f := 23) (args := #[.pointer (some ⟨p34, 0, none⟩)]) (by kernel_rfl) Tryd.call23 (list_spec ((ldo (lfrom (pairsOf items) (l.take k)) (l.getD k dOp)).2) (Nat.le_trans (ldo_inv _ (lfrom_inv _ (pairsOf_inv (by assumption)))).len (by decide)) hs81) ?_
                    rintro v85 w86 ⟨ad82, c83, rfl, hs84⟩
                    refine ⟨(opl (n := [.cell ⟨q42, 0, none⟩ (.slice ad74 (((rdo (lst (lfrom (pairsOf items) (l.take k))) (l.getD k dOp)).2).length) c75)]) (by kernel_rfl) (okc (hs84.cell 3 rfl (by kernel_rfl)) ok0)), ?_⟩
                    refine GoR.call rfl rfl (by kernel_rfl) (f := 25) (args := #[.slice ad82 ((lst ((ldo (lfrom (pairsOf items) (l.take k)) (l.getD k dOp)).2)).length) c83, .slice ad74 (((rdo (lst (lfrom (pairsOf items) (l.take k))) (l.getD k dOp)).2).length) c75]) (by kernel_rfl) Tryd.call25 (same_spec (lst ((ldo (lfrom (pairsOf items) (l.take k)) (l.getD k dOp)).2)) ((rdo (lst (lfrom (pairsOf items) (l.take k))) (l.getD k dOp)).2) (by rw [lst_length]; exact Nat.le_trans (ldo_inv _ (lfrom_inv _ (pairsOf_inv (by assumption)))).len (by decide)) (by rw [rdo_snd (lfrom_inv _ (pairsOf_inv (by assumption))), lst_length]; exact Nat.le_trans (ldo_inv _ (lfrom_inv _ (pairsOf_inv (by assumption)))).len (by decide)) (fun w h => h.rows 0 rfl (itemF).size _) (fun w h => h.rows 4 rfl (itemF).size _) hs84) ?_
                    rintro v88 w89 ⟨rfl, hs87⟩
                    refine ⟨(opn (by kernel_rfl)), ?_⟩
                    refine GoR.phaseK [(38, .gen []), (39, .gen []), (40, .gen [])] [116, 1, 6, 8, 10] [] [(116, .bool (!(decide ((lst ((ldo (lfrom (pairsOf items) (l.take k)) (l.getD k dOp)).2)) = ((rdo (lst (lfrom (pairsOf items) (l.take k))) (l.getD k dOp)).2))))), (1, .slice (some ⟨ab58, ao59, none⟩) l.length c), (6, .pointer (some ⟨p34, 0, none⟩)), (8, .pointer (some ⟨q42, 0, none⟩)), (10, .int .i64 (k : Nat))] (by kernel_rfl) rfl ak0 ?_
                    refine GoR.done (GoQ.thn ?_)
                    refine GoC.cond (t := !(decide ((lst ((ldo (lfrom (pairsOf items) (l.take k)) (l.getD k dOp)).2)) = ((rdo (lst (lfrom (pairsOf items) (l.take k))) (l.getD k dOp)).2)))) (by kernel_rfl) (fun h90 => ?_) (fun h90 => ?_)
                    · have h90n : (decide ((lst ((ldo (lfrom (pairsOf items) (l.take k)) (l.getD k dOp)).2)) = ((rdo (lst (lfrom (pairsOf items) (l.take k))) (l.getD k dOp)).2))) = false := notT h90
                      have h90n' : ¬ ((lst ((ldo (lfrom (pairsOf items) (l.take k)) (l.getD k dOp)).2)) = ((rdo (lst (lfrom (pairsOf items) (l.take k))) (l.getD k dOp)).2)) := of_decide_eq_false h90n
                      exact absurd h90 (by rw [rdo_snd (lfrom_inv _ (pairsOf_inv (by assumption)))]; simp)
                    · have h90n : (decide ((lst ((ldo (lfrom (pairsOf items) (l.take k)) (l.getD k dOp)).2)) = ((rdo (lst (lfrom (pairsOf items) (l.take k))) (l.getD k dOp)).2))) = true := notF h90
                      have h90n' : (lst ((ldo (lfrom (pairsOf items) (l.take k)) (l.getD k dOp)).2)) = ((rdo (lst (lfrom (pairsOf items) (l.take k))) (l.getD k dOp)).2) := of_decide_eq_true h90n
                      refine GoC.skip (GoQ.blkN (GoQ.thn ?_))
                      refine GoC.regT [7, 7, 7] (.rd 0 (.rd 1 (.rd 2 .done))) (by kernel_rfl) (by kernel_rfl) ?_
                      refine GoR.phaseK [(0, .gen []), (1, .as_ (.int .i64 ((k : Nat) + 1)) (.gen [])), (2, .gen [])] [10, 1, 6, 8] [(1, [.prop (Value.int .i64 (IntKind.i64.wrap ((k : Nat) + 1)) = Value.int .i64 ((k : Nat) + 1))])] [(10, .int .i64 ((k : Nat) + 1)), (1, .slice (some ⟨ab58, ao59, none⟩) l.length c), (6, .pointer (some ⟨p34, 0, none⟩)), (8, .pointer (some ⟨q42, 0, none⟩))] (by kernel_rfl) rfl (ak (okp (i64ok (by omega) (by omega)) ok0) ak0) ?_
                      refine GoR.done ?_
                      have hs91 : St W ((Cel p34 #[.map (some r35)] 89) :: (MapA Value.string Value.string r35 ((ldo (lfrom (pairsOf items) (l.take k)) (l.getD k dOp)).2)) :: (Cel q42 #[.slice ad74 (((rdo (lst (lfrom (pairsOf items) (l.take k))) (l.getD k dOp)).2).length) c75] 68) :: (Sl ad74 c75 61 2 ItemV.cells ((rdo (lst (lfrom (pairsOf items) (l.take k))) (l.getD k dOp)).2)) :: (Base W) :: []) w89 := hs87.drop 1
                      rw [rdo_snd (lfrom_inv _ (pairsOf_inv (by assumption))), ← lfrom_succ (d := dOp) hk] at hs91
                      exact GoQ.back (k + 1, ad74, c75) [1, 6, 8, 10] (by kernel_rfl) (by show l.length - (k + 1) < l.length - k; omega) ⟨by omega, hs91⟩
                  · refine GoR.setB 106 false (by decide) (by kernel_rfl) h80 ?_
                    have h80' : ¬ (((k : Nat) % 8 : Int) = 0) := ieqF h80
                    refine GoR.phaseK [(31, .gen []), (33, .gen []), (34, .gen []), (35, .gen []), (36, .gen [])] [112, 107, 106, 102, 1, 6, 8, 10] [] [(112, undef), (107, undef), (106, .bool false), (102, .bool false), (1, .slice (some ⟨ab58, ao59, none⟩) l.length c), (6, .pointer (some ⟨p34, 0, none⟩)), (8, .pointer (some ⟨q42, 0, none⟩)), (10, .int .i64 (k : Nat))] (by kernel_rfl) rfl ak0 ?_
                    refine GoR.skip rfl (by kernel_rfl) (opn (by kernel_rfl)) ?_
                    refine GoR.skip rfl (by kernel_rfl) (opn (by kernel_rfl)) ?_
                    refine GoR.phaseK [(38, .gen []), (39, .gen []), (40, .gen [])] [116, 1, 6, 8, 10] [] [(116, .bool false), (1, .slice (some ⟨ab58, ao59, none⟩) l.length c), (6, .pointer (some ⟨p34, 0, none⟩)), (8, .pointer (some ⟨q42, 0, none⟩)), (10, .int .i64 (k : Nat))] (by kernel_rfl) rfl ak0 ?_
                    refine GoR.done (GoQ.thn (GoC.condF (by kernel_rfl) (GoC.skip (GoQ.blkN (GoQ.thn ?_)))))
                    refine GoC.regT [7, 7, 7] (.rd 0 (.rd 1 (.rd 2 .done))) (by kernel_rfl) (by kernel_rfl) ?_
                    refine GoR.phaseK [(0, .gen []), (1, .as_ (.int .i64 ((k : Nat) + 1)) (.gen [])), (2, .gen [])] [10, 1, 6, 8] [(1, [.prop (Value.int .i64 (IntKind.i64.wrap ((k : Nat) + 1)) = Value.int .i64 ((k : Nat) + 1))])] [(10, .int .i64 ((k : Nat) + 1)), (1, .slice (some ⟨ab58, ao59, none⟩) l.length c), (6, .pointer (some ⟨p34, 0, none⟩)), (8, .pointer (some ⟨q42, 0, none⟩))] (by kernel_rfl) rfl (ak (okp (i64ok (by omega) (by omega)) ok0) ak0) ?_
                    refine GoR.done ?_
                    have hs92 : St W ((Cel p34 #[.map (some r35)] 89) :: (MapA Value.string Value.string r35 ((ldo (lfrom (pairsOf items) (l.take k)) (l.getD k dOp)).2)) :: (Cel q42 #[.slice ad74 (((rdo (lst (lfrom (pairsOf items) (l.take k))) (l.getD k dOp)).2).length) c75] 68) :: (Sl ad74 c75 61 2 ItemV.cells ((rdo (lst (lfrom (pairsOf items) (l.take k))) (l.getD k dOp)).2)) :: (Base W) :: []) w78 := (((((hs76.pull 4 rfl).pull 2 rfl).pull 2 rfl).pull 4 rfl).pull 4 rfl)
                    rw [rdo_snd (lfrom_inv _ (pairsOf_inv (by assumption))), ← lfrom_succ (d := dOp) hk] at hs92
                    exact GoQ.back (k + 1, ad74, c75) [1, 6, 8, 10] (by kernel_rfl) (by show l.length - (k + 1) < l.length - k; omega) ⟨by omega, hs92⟩
            · have h57' : ¬ (((k : Nat) : Int) < (l.length : Nat)) := of_decide_eq_false h57
              have hall : l.take k = l := List.take_of_length_le (by omega)
              rw [hall] at hs56
              refine GoC.exit (GoQ.skipC (GoQ.skipL (GoQ.hit (GoQ.thn (GoC.seq ?_)))))
              refine GoC.regT [7, 7, 7] (.rd 0 (.ef 1 (.rd 2 .done))) (by kernel_rfl) (by kernel_rfl) ?_
              refine GoR.phaseK [(0, .gen [])] [117, 6, 8] [] [(117, .pointer (some ⟨p34, 0, none⟩)), (6, .pointer (some ⟨p34, 0, none⟩)), (8, .pointer (some ⟨q42, 0, none⟩))] (by kernel_rfl) rfl ak0 ?_
              refine GoR.call rfl rfl (by kernel_rfl) (f := 23) (args := #[.pointer (some ⟨p34, 0, none⟩)]) (by kernel_rfl) Tryd.call23 (list_spec (lfrom (pairsOf items) l) (Nat.le_trans (lfrom_inv _ (pairsOf_inv (by assumption))).len (by decide)) hs56) ?_
              rintro v96 w97 ⟨ad93, c94, rfl, hs95⟩
              refine ⟨(opn (by kernel_rfl)), ?_⟩
              refine GoR.phaseK [(2, .gen [])] [11, 6, 8] [] [(11, .slice ad93 ((lst (lfrom (pairsOf items) l)).length) c94), (6, .pointer (some ⟨p34, 0, none⟩)), (8, .pointer (some ⟨q42, 0, none⟩))] (by kernel_rfl) rfl ak0 ?_
              refine GoR.done (GoQ.thn (GoC.seq (GoC.seq ?_)))
              refine GoC.regT [1] (.rd 0 .done) (by kernel_rfl) (by kernel_rfl) ?_
              refine GoR.phaseK [(0, .gen [])] [12, 11, 6, 8] [] [(12, .int .i64 0), (11, .slice ad93 ((lst (lfrom (pairsOf items) l)).length) c94), (6, .pointer (some ⟨p34, 0, none⟩)), (8, .pointer (some ⟨q42, 0, none⟩))] (by kernel_rfl) rfl ak0 ?_
              refine GoR.done (GoQ.thn (GoC.block ?_))
              have hml : (lst (lfrom (pairsOf items) l)).length ≤ 64 := by rw [lst_length]; exact (lfrom_inv _ (pairsOf_inv (by assumption))).len
              refine GoC.loop (T := Nat × (List ItemV)) (fun gg => [(6, .pointer (some ⟨p34, 0, none⟩)), (8, .pointer (some ⟨q42, 0, none⟩)), (11, .slice ad93 ((lst (lfrom (pairsOf items) l)).length) c94), (12, .int .i64 (gg.1 : Nat))]) (fun gg w => (gg.1 ≤ (lst (lfrom (pairsOf items) l)).length ∧ gg.2.length = (lst (lfrom (pairsOf items) l)).length) ∧ St W ((Sl ad93 c94 61 2 ItemV.cells gg.2) :: (Cel p34 #[.map (some r35)] 89) :: (MapA Value.string Value.string r35 (lfrom (pairsOf items) l)) :: (Cel q42 #[.slice adr ((lst (lfrom (pairsOf items) l)).length) cr] 68) :: (Sl adr cr 61 2 ItemV.cells (lst (lfrom (pairsOf items) l))) :: (Base W) :: []) w) (fun gg => (lst (lfrom (pairsOf items) l)).length - gg.1) (0, (lst (lfrom (pairsOf items) l))) [6, 8, 11, 12] (by kernel_rfl) ⟨⟨Nat.zero_le _, rfl⟩, hs95⟩ ?_
              rintro ⟨j, ol⟩ w98 ⟨hj0, hs99⟩
              have hj : j ≤ (lst (lfrom (pairsOf items) l)).length ∧ ol.length = (lst (lfrom (pairsOf items) l)).length := hj0
              have hs100 : St W ((Sl ad93 c94 61 2 ItemV.cells ol) :: (Cel p34 #[.map (some r35)] 89) :: (MapA Value.string Value.string r35 (lfrom (pairsOf items) l)) :: (Cel q42 #[.slice adr ((lst (lfrom (pairsOf items) l)).length) cr] 68) :: (Sl adr cr 61 2 ItemV.cells (lst (lfrom (pairsOf items) l))) :: (Base W) :: []) w98 := hs99
              refine GoC.slots (S' := [(6, .pointer (some ⟨p34, 0, none⟩)), (8, .pointer (some ⟨q42, 0, none⟩)), (11, .slice ad93 ((lst (lfrom (pairsOf items) l)).length) c94), (12, .int .i64 (j : Nat))]) rfl ?_
              refine GoC.seq (GoC.seq ?_)
              refine GoC.regT [15, 15, 15, 15] (.rd 0 (.rd 1 (.rd 2 (.rd 3 .done)))) (by kernel_rfl) (by kernel_rfl) ?_
              refine GoR.phaseK [(0, .gen []), (1, .gen []), (2, .gen []), (3, .gen [])] [122, 6, 8, 11, 12] [] [(122, .bool (decide (((j : Nat) : Int) < ((lst (lfrom (pairsOf items) l)).length : Nat)))), (6, .pointer (some ⟨p34, 0, none⟩)), (8, .pointer (some ⟨q42, 0, none⟩)), (11, .slice ad93 ((lst (lfrom (pairsOf items) l)).length) c94), (12, .int .i64 (j : Nat))] (by kernel_rfl) rfl ak0 ?_
              refine GoR.done (GoQ.thn ?_)
              refine GoC.cond (t := decide (((j : Nat) : Int) < ((lst (lfrom (pairsOf items) l)).length : Nat))) (by kernel_rfl) (fun h101 => ?_) (fun h101 => ?_)
              · have h101' : ((j : Nat) : Int) < ((lst (lfrom (pairsOf items) l)).length : Nat) := of_decide_eq_true h101
                have hk2 : j < ol.length := by omega
                obtain ⟨ab102, rfl⟩ := Sl.isSome (hs100.at_ 0 rfl) (by omega)
                refine GoC.skip (GoQ.thn (GoC.seq (GoC.block ?_)))
                refine GoC.regT [31, 31, 31, 31, 31] (.rd 0 (.rd 1 (.rd 2 (.rd 3 (.ef 4 .done))))) (by kernel_rfl) (by kernel_rfl) ?_
                refine GoR.phaseK [(0, .gen []), (1, .gen []), (2, .as_ (.pointer (some ⟨ab102, 0 + (j * 2), none⟩)) .at_), (3, .gen [])] [128, 6, 8, 11, 12] [(2, [.prop (0 ≤ ((j : Nat) : Int) ∧ ((j : Nat) : Int) < (((lst (lfrom (pairsOf items) l)).length : Nat) : Int)), .prop (Value.pointer (some (Addr.add ⟨ab102, 0, none⟩ (Int.toNat (j : Nat) * 2))) = Value.pointer (some ⟨ab102, 0 + (j * 2), none⟩))])] [(128, .pointer (some ⟨ab102, 0 + (j * 2) + 1, none⟩)), (6, .pointer (some ⟨p34, 0, none⟩)), (8, .pointer (some ⟨q42, 0, none⟩)), (11, .slice (some ⟨ab102, 0, none⟩) ((lst (lfrom (pairsOf items) l)).length) c94), (12, .int .i64 (j : Nat))] (by kernel_rfl) rfl (ak (okp (by omega) (okp (ptrAdd _ _ _) ok0)) ak0) ?_
                refine GoR.storeSl rfl rfl (by kernel_rfl) (b := ab102) (off := 0 + (j * 2) + 1) (v := .string (⟨#[116, 117, 114, 110, 101, 100]⟩ : ByteArray)) (by kernel_rfl) (by kernel_rfl) (ti := Tryd.t9) (by kernel_rfl) hs100 0 (itemF).size rfl (by kernel_rfl) (by kernel_rfl) (by rw [Nat.zero_add]; exact field_room (f := ItemV.cells) (size := 2) (l := ol) (k := j) (o := 1) (n := 1) (itemF).size (by first | omega | (simp only [List.length_set]; omega)) (by decide)) (List.length_set ..) (xs' := (ol).set j (⟨(ol.getD j dItem).key, (⟨#[116, 117, 114, 110, 101, 100]⟩ : ByteArray)⟩ : ItemV)) (by rw [Nat.zero_add]; exact splice_field (f := ItemV.cells) (size := 2) (l := ol) (k := j) (o := 1) (itemF).size (by first | omega | (simp only [List.length_set]; omega)) dItem (⟨(ol.getD j dItem).key, (⟨#[116, 117, 114, 110, 101, 100]⟩ : ByteArray)⟩ : ItemV) (by decide) (by kernel_rfl)) (L' := (Sl (some ⟨ab102, 0, none⟩) c94 61 2 ItemV.cells ((ol).set j (⟨(ol.getD j dItem).key, (⟨#[116, 117, 114, 110, 101, 100]⟩ : ByteArray)⟩ : ItemV))) :: (Cel p34 #[.map (some r35)] 89) :: (MapA Value.string Value.string r35 (lfrom (pairsOf items) l)) :: (Cel q42 #[.slice adr ((lst (lfrom (pairsOf items) l)).length) cr] 68) :: (Sl adr cr 61 2 ItemV.cells (lst (lfrom (pairsOf items) l))) :: (Base W) :: []) rfl ?_
                intro w104 hs105
                refine ⟨(opn (by kernel_rfl)), ?_⟩
                refine GoR.done (GoQ.blkN (GoQ.thn ?_))
                refine GoC.regT [7, 7, 7] (.rd 0 (.rd 1 (.rd 2 .done))) (by kernel_rfl) (by kernel_rfl) ?_
                refine GoR.phaseK [(0, .gen []), (1, .as_ (.int .i64 ((j : Nat) + 1)) (.gen [])), (2, .gen [])] [12, 6, 8, 11] [(1, [.prop (Value.int .i64 (IntKind.i64.wrap ((j : Nat) + 1)) = Value.int .i64 ((j : Nat) + 1))])] [(12, .int .i64 ((j : Nat) + 1)), (6, .pointer (some ⟨p34, 0, none⟩)), (8, .pointer (some ⟨q42, 0, none⟩)), (11, .slice (some ⟨ab102, 0, none⟩) ((lst (lfrom (pairsOf items) l)).length) c94)] (by kernel_rfl) rfl (ak (okp (i64ok (by omega) (by omega)) ok0) ak0) ?_
                refine GoR.done ?_
                exact GoQ.back (j + 1, (ol).set j (⟨(ol.getD j dItem).key, (⟨#[116, 117, 114, 110, 101, 100]⟩ : ByteArray)⟩ : ItemV)) [6, 8, 11, 12] (by kernel_rfl) (by show (lst (lfrom (pairsOf items) l)).length - (j + 1) < (lst (lfrom (pairsOf items) l)).length - j; omega) ⟨⟨by omega, by rw [List.length_set]; exact hj.2⟩, hs105⟩
              · have h101' : ¬ (((j : Nat) : Int) < ((lst (lfrom (pairsOf items) l)).length : Nat)) := of_decide_eq_false h101
                refine GoC.exit (GoQ.skipC (GoQ.skipL (GoQ.hit (GoQ.thn (GoC.seq ?_)))))
                refine GoC.regD [0, 1, 0, 4, 12, 28, 63, 127, 255, 511, 1023] (.rd 0 (.rd 2 (.rd 3 (.rd 4 (.rd 5 (.ef 1 (.ef 6 (.rd 7 (.ef 8 (.rd 9 (.rd 10 .done))))))))))) (by kernel_rfl) (by kernel_rfl) noPan_body (by kernel_rfl) hs100 ?_
                intro w106 hs107 hw108
                refine GoR.phaseK [(0, .gen []), (2, .gen []), (3, .gen []), (4, .gen []), (5, .gen [.slice adr ((lst (lfrom (pairsOf items) l)).length) cr])] [134, 129] [(5, [.cell ⟨q42, 0, none⟩ (.slice adr ((lst (lfrom (pairsOf items) l)).length) cr)])] [(134, .slice adr ((lst (lfrom (pairsOf items) l)).length) cr), (129, .pointer (some ⟨p34, 0, none⟩))] (by kernel_rfl) rfl (ak (okc (hs107.cell 3 rfl (by kernel_rfl)) ok0) ak0) ?_
                have hs109 : St W ((Cel p34 #[.map (some r35)] 89) :: (MapA Value.string Value.string r35 (lfrom (pairsOf items) l)) :: (Sl ad93 c94 61 2 ItemV.cells ol) :: (Cel q42 #[.slice adr ((lst (lfrom (pairsOf items) l)).length) cr] 68) :: (Sl adr cr 61 2 ItemV.cells (lst (lfrom (pairsOf items) l))) :: (Base W) :: []) w106 := ((hs107.pull 2 rfl).pull 2 rfl)
                refine GoR.call rfl rfl (by kernel_rfl) (f := 23) (args := #[.pointer (some ⟨p34, 0, none⟩)]) (by kernel_rfl) Tryd.call23 (list_spec (lfrom (pairsOf items) l) (Nat.le_trans (lfrom_inv _ (pairsOf_inv (by assumption))).len (by decide)) hs109) ?_
                rintro v113 w114 ⟨ad110, c111, rfl, hs112⟩
                refine ⟨(opl (n := [.cell ⟨q42, 0, none⟩ (.slice adr ((lst (lfrom (pairsOf items) l)).length) cr)]) (by kernel_rfl) (okc (hs112.cell 4 rfl (by kernel_rfl)) ok0)), ?_⟩
                refine GoR.call rfl rfl (by kernel_rfl) (f := 25) (args := #[.slice ad110 ((lst (lfrom (pairsOf items) l)).length) c111, .slice adr ((lst (lfrom (pairsOf items) l)).length) cr]) (by kernel_rfl) Tryd.call25 (same_spec (lst (lfrom (pairsOf items) l)) (lst (lfrom (pairsOf items) l)) (by rw [lst_length]; exact Nat.le_trans (lfrom_inv _ (pairsOf_inv (by assumption))).len (by decide)) (by rw [lst_length]; exact Nat.le_trans (lfrom_inv _ (pairsOf_inv (by assumption))).len (by decide)) (fun w h => h.rows 0 rfl (itemF).size _) (fun w h => h.rows 5 rfl (itemF).size _) hs112) ?_
                rintro v116 w117 ⟨rfl, hs115⟩
                refine ⟨(opn (by kernel_rfl)), ?_⟩
                refine GoR.phaseK [(7, .gen [])] [136] [] [(136, .bool (decide ((lst (lfrom (pairsOf items) l)) = (lst (lfrom (pairsOf items) l)))))] (by kernel_rfl) rfl ak0 ?_
                rcases Bool.eq_false_or_eq_true (decide ((lst (lfrom (pairsOf items) l)) = (lst (lfrom (pairsOf items) l)))) with h118 | h118
                · refine GoR.setB 136 true (by decide) (by kernel_rfl) h118 ?_
                  have h118' : (lst (lfrom (pairsOf items) l)) = (lst (lfrom (pairsOf items) l)) := of_decide_eq_true h118
                  refine GoR.call rfl rfl (by kernel_rfl) (f := 21) (args := #[]) (by kernel_rfl) Tryd.call21 (works_spec (fun w h => hLW.base h 6 rfl) hs115) ?_
                  rintro v120 w121 ⟨rfl, hs119⟩
                  refine ⟨(opn (by kernel_rfl)), ?_⟩
                  refine GoR.phaseK [(9, .gen []), (10, .gen [])] [4] [] [(4, .bool true)] (by kernel_rfl) rfl ak0 ?_
                  refine GoR.done (GoQ.thn (GoC.ret ?_))
                  refine GoQ.done (.inl rfl) (v := .bool true) (fun a hf => results1 rfl (by kernel_rfl) a hf) ?_
                  exact ⟨rfl, hs119.below 6 rfl⟩
                · refine GoR.setB 136 false (by decide) (by kernel_rfl) h118 ?_
                  have h118' : ¬ ((lst (lfrom (pairsOf items) l)) = (lst (lfrom (pairsOf items) l))) := of_decide_eq_false h118
                  exact absurd h118 (by simp)
          · exact absurd (h36.symm.trans h47) (by decide)
        · refine ⟨(opn (by kernel_rfl)), ?_⟩
          refine GoR.phaseK [(4, .gen []), (5, .gen []), (6, .gen []), (7, .gen []), (8, .gen [])] [7, 6, 0, 1] [] [(7, .int .i64 (ofErr items)), (6, .pointer none), (0, .slice adi items.length ci), (1, .slice ad l.length c)] (by kernel_rfl) rfl ak0 ?_
          refine GoR.done (GoQ.thn (GoC.seq ?_))
          refine GoC.regT [127, 127, 127, 127, 127, 127, 127] (.rd 0 (.ef 1 (.rd 2 (.rd 3 (.rd 4 (.rd 5 (.rd 6 .done))))))) (by kernel_rfl) (by kernel_rfl) ?_
          refine GoR.phaseK [(0, .gen [])] [51, 7, 6, 1] [] [(51, .slice adi items.length ci), (7, .int .i64 (ofErr items)), (6, .pointer none), (1, .slice ad l.length c)] (by kernel_rfl) rfl ak0 ?_
          refine GoR.call rfl rfl (by kernel_rfl) (f := 30) (args := #[.slice adi items.length ci]) (by kernel_rfl) Tryd.call30 (rof_spec items (by omega) hni (fun w h => rw1.base (fun k _ => (itemF).size _) h 1 rfl) hs39) ?_
          rintro v129 w130 (⟨q122, ad123, c124, rfl, h125, hs126⟩ | ⟨rfl, h127, hs128⟩)
          · exact absurd (h38.symm.trans h125) (by decide)
          · refine ⟨(opn (by kernel_rfl)), ?_⟩
            refine GoR.phaseK [(2, .gen []), (3, .gen []), (4, .gen []), (5, .gen []), (6, .gen [])] [9, 8, 7, 6, 1] [] [(9, .int .i64 (ofErr items)), (8, .pointer none), (7, .int .i64 (ofErr items)), (6, .pointer none), (1, .slice ad l.length c)] (by kernel_rfl) rfl ak0 ?_
            refine GoR.done (GoQ.thn (GoC.seq (GoC.seq ?_)))
            refine GoC.join (T := Unit) (E := fun _ => [(64, .bool ((((ofErr items) : Int) != (ofErr items)) || (!(true == (((ofErr items) : Int) != 0))))), (9, .int .i64 (ofErr items)), (8, .pointer none), (6, .pointer none), (1, .slice ad l.length c)]) (F := fun _ w => St W ((Sl ad32 c33 61 2 ItemV.cells items) :: (Base W) :: []) w) ?_ ?_
            · refine GoC.regT [1023, 1023, 1023, 1023, 1023, 1023, 1023, 1023, 1023, 1023] (.rd 0 (.rd 1 (.rd 2 (.rd 3 (.rd 4 (.rd 5 (.rd 6 (.rd 7 (.rd 8 (.rd 9 .done)))))))))) (by kernel_rfl) (by kernel_rfl) ?_
              refine GoR.phaseK [(0, .gen []), (1, .gen []), (2, .gen []), (3, .gen [])] [58, 9, 8, 6, 1] [] [(58, .bool (((ofErr items) : Int) != (ofErr items))), (9, .int .i64 (ofErr items)), (8, .pointer none), (6, .pointer none), (1, .slice ad l.length c)] (by kernel_rfl) rfl ak0 ?_
              rcases Bool.eq_false_or_eq_true (((ofErr items) : Int) != (ofErr items)) with h131 | h131
              · refine GoR.setB 58 true (by decide) (by kernel_rfl) h131 ?_
                have h131' : ¬ ((ofErr items : Int) = (ofErr items)) := ineT h131
                refine GoR.phaseK [(4, .gen []), (5, .gen []), (6, .gen []), (7, .gen []), (8, .gen []), (9, .gen [])] [64, 9, 8, 6, 1] [] [(64, .bool true), (9, .int .i64 (ofErr items)), (8, .pointer none), (6, .pointer none), (1, .slice ad l.length c)] (by kernel_rfl) rfl ak0 ?_
                refine GoR.done ?_
                refine GoQ.pick [64, 9, 8, 6, 1] (S' := [(64, .bool true), (9, .int .i64 (ofErr items)), (8, .pointer none), (6, .pointer none), (1, .slice ad l.length c)]) (by kernel_rfl) ?_
                exact GoQ.meet1 () (by first | rfl | (simp only [h4, h4n, h131, Bool.not_true, Bool.not_false, Bool.true_or, Bool.false_or, Bool.true_and, Bool.false_and, Bool.or_true, Bool.or_false, Bool.and_true, Bool.and_false]; done) | (simp [h4, h4n, h131]; done)) hs128
              · refine GoR.setB 58 false (by decide) (by kernel_rfl) h131 ?_
                have h131' : (ofErr items : Int) = (ofErr items) := ineF h131
                refine GoR.phaseK [(4, .gen []), (5, .gen []), (6, .gen []), (7, .gen []), (8, .gen []), (9, .gen [])] [64, 9, 8, 6, 1] [] [(64, .bool (!(true == (((ofErr items) : Int) != 0)))), (9, .int .i64 (ofErr items)), (8, .pointer none), (6, .pointer none), (1, .slice ad l.length c)] (by kernel_rfl) rfl ak0 ?_
                refine GoR.done ?_
                refine GoQ.pick [64, 9, 8, 6, 1] (S' := [(64, .bool (!(true == (((ofErr items) : Int) != 0)))), (9, .int .i64 (ofErr items)), (8, .pointer none), (6, .pointer none), (1, .slice ad l.length c)]) (by kernel_rfl) ?_
                exact GoQ.meet1 () (by first | rfl | (simp only [h4, h4n, h131, Bool.not_true, Bool.not_false, Bool.true_or, Bool.false_or, Bool.true_and, Bool.false_and, Bool.or_true, Bool.or_false, Bool.and_true, Bool.and_false]; done) | (simp [h4, h4n, h131]; done)) hs128
            intro _ w132 hs133
            refine GoQ.thn ?_
            refine GoC.cond (t := (((ofErr items) : Int) != (ofErr items)) || (!(true == (((ofErr items) : Int) != 0)))) (by kernel_rfl) (fun h134 => ?_) (fun h134 => ?_)
            · exact absurd h134 (by simp [ofErr_ne items])
            · have h134a : (((ofErr items) : Int) != (ofErr items)) = false := (Bool.or_eq_false_iff.1 h134).1
              have h134a' : (ofErr items : Int) = (ofErr items) := ineF h134a
              have h134b : (!(true == (((ofErr items) : Int) != 0))) = false := (Bool.or_eq_false_iff.1 h134).2
              have h134bn : (true == (((ofErr items) : Int) != 0)) = true := notF h134b
              refine GoC.skip (GoQ.thn (GoC.seq (GoC.seq ?_)))
              refine GoC.regT [3, 3] (.rd 0 (.rd 1 .done)) (by kernel_rfl) (by kernel_rfl) ?_
              refine GoR.phaseK [(0, .gen []), (1, .gen [])] [66, 8, 6, 1] [] [(66, .bool (((ofErr items) : Int) != 0)), (8, .pointer none), (6, .pointer none), (1, .slice ad l.length c)] (by kernel_rfl) rfl ak0 ?_
              refine GoR.done (GoQ.thn ?_)
              refine GoC.cond (t := ((ofErr items) : Int) != 0) (by kernel_rfl) (fun h135 => ?_) (fun h135 => ?_)
              · have h135' : ¬ ((ofErr items : Int) = 0) := ineT h135
                refine GoC.seq ?_
                refine GoC.regT [3, 3] (.ef 0 (.rd 1 .done)) (by kernel_rfl) (by kernel_rfl) ?_
                refine GoR.call rfl rfl (by kernel_rfl) (f := 16) (args := #[]) (by kernel_rfl) Tryd.call16 (new_spec hs133) ?_
                rintro v139 w140 ⟨p136, r137, rfl, hs138⟩
                refine ⟨(opn (by kernel_rfl)), ?_⟩
                refine GoR.phaseK [(1, .gen [])] [6, 8, 1] [] [(6, .pointer (some ⟨p136, 0, none⟩)), (8, .pointer none), (1, .slice ad l.length c)] (by kernel_rfl) rfl ak0 ?_
                refine GoR.done (GoQ.thn ?_)
                refine GoC.regT [7, 7, 7] (.rd 0 (.ef 1 (.rd 2 .done))) (by kernel_rfl) (by kernel_rfl) ?_
                refine GoR.phaseK [(0, .gen [])] [68, 6, 8, 1] [] [(68, .agg #[.slice none 0 0]), (6, .pointer (some ⟨p136, 0, none⟩)), (8, .pointer none), (1, .slice ad l.length c)] (by kernel_rfl) rfl ak0 ?_
                refine GoR.box rfl rfl (by kernel_rfl) (v := .agg #[.slice none 0 0]) (by kernel_rfl) hs138 (cs := #[.slice none 0 0]) (by kernel_rfl) ?_
                intro b141 w142 hs143
                refine ⟨(opn (by kernel_rfl)), ?_⟩
                refine GoR.phaseK [(2, .gen [])] [8, 6, 1] [] [(8, .pointer (some ⟨b141, 0, none⟩)), (6, .pointer (some ⟨p136, 0, none⟩)), (1, .slice ad l.length c)] (by kernel_rfl) rfl ak0 ?_
                refine GoR.done (GoQ.thn (GoC.seq (GoC.seq ?_)))
                refine GoC.regT [1] (.rd 0 .done) (by kernel_rfl) (by kernel_rfl) ?_
                refine GoR.phaseK [(0, .gen [])] [10, 8, 6, 1] [] [(10, .int .i64 0), (8, .pointer (some ⟨b141, 0, none⟩)), (6, .pointer (some ⟨p136, 0, none⟩)), (1, .slice ad l.length c)] (by kernel_rfl) rfl ak0 ?_
                refine GoR.done (GoQ.thn (GoC.block ?_))
                have hs144 : St W ((Sl ad32 c33 61 2 ItemV.cells items) :: (Cel p136 #[.map (some r137)] 89) :: (MapA Value.string Value.string r137 ([] : List (ByteArray × ByteArray))) :: (Cel b141 #[.slice none 0 0] 68) :: (Base W) :: []) w142 := (((((hs143.pull 4 rfl).pull 1 rfl).pull 3 rfl).pull 3 rfl).pull 4 rfl)
                have hs145 : St W ((Cel p136 #[.map (some r137)] 89) :: (MapA Value.string Value.string r137 ([] : List (ByteArray × ByteArray))) :: (Cel b141 #[.slice none 0 0] 68) :: (Base W) :: []) w142 := hs144.drop 1
                have hs146 : St W ((Sl none 0 61 2 ItemV.cells (lst ([] : List (ByteArray × ByteArray)))) :: (Cel p136 #[.map (some r137)] 89) :: (MapA Value.string Value.string r137 ([] : List (ByteArray × ByteArray))) :: (Cel b141 #[.slice none ((lst ([] : List (ByteArray × ByteArray))).length) 0] 68) :: (Base W) :: []) w142 := by rw [lst_nil]; exact hs145.slNil 61 2 ItemV.cells
                have hs147 : St W ((Cel p136 #[.map (some r137)] 89) :: (MapA Value.string Value.string r137 ([] : List (ByteArray × ByteArray))) :: (Cel b141 #[.slice none ((lst ([] : List (ByteArray × ByteArray))).length) 0] 68) :: (Sl none 0 61 2 ItemV.cells (lst ([] : List (ByteArray × ByteArray)))) :: (Base W) :: []) w142 := (((((hs146.pull 4 rfl).pull 1 rfl).pull 4 rfl).pull 4 rfl).pull 4 rfl)
                refine GoC.loop (T := Nat × (Option Addr) × Nat) (fun gg => [(1, .slice ad l.length c), (6, .pointer (some ⟨p136, 0, none⟩)), (8, .pointer (some ⟨b141, 0, none⟩)), (10, .int .i64 (gg.1 : Nat))]) (fun gg w => (gg.1 ≤ l.length) ∧ St W ((Cel p136 #[.map (some r137)] 89) :: (MapA Value.string Value.string r137 (lfrom ([] : List (ByteArray × ByteArray)) (l.take gg.1))) :: (Cel b141 #[.slice gg.2.1 ((lst (lfrom ([] : List (ByteArray × ByteArray)) (l.take gg.1))).length) gg.2.2] 68) :: (Sl gg.2.1 gg.2.2 61 2 ItemV.cells (lst (lfrom ([] : List (ByteArray × ByteArray)) (l.take gg.1)))) :: (Base W) :: []) w) (fun gg => l.length - gg.1) (0, none, 0) [1, 6, 8, 10] (by kernel_rfl) ⟨Nat.zero_le _, hs147⟩ ?_
                rintro ⟨k, adr, cr⟩ w148 ⟨hp0, hs149⟩
                have hp : k ≤ l.length := hp0
                have hs150 : St W ((Cel p136 #[.map (some r137)] 89) :: (MapA Value.string Value.string r137 (lfrom ([] : List (ByteArray × ByteArray)) (l.take k))) :: (Cel b141 #[.slice adr ((lst (lfrom ([] : List (ByteArray × ByteArray)) (l.take k))).length) cr] 68) :: (Sl adr cr 61 2 ItemV.cells (lst (lfrom ([] : List (ByteArray × ByteArray)) (l.take k)))) :: (Base W) :: []) w148 := hs149
                refine GoC.slots (S' := [(1, .slice ad l.length c), (6, .pointer (some ⟨p136, 0, none⟩)), (8, .pointer (some ⟨b141, 0, none⟩)), (10, .int .i64 (k : Nat))]) rfl ?_
                refine GoC.seq (GoC.seq ?_)
                refine GoC.regT [15, 15, 15, 15] (.rd 0 (.rd 1 (.rd 2 (.rd 3 .done)))) (by kernel_rfl) (by kernel_rfl) ?_
                refine GoR.phaseK [(0, .gen []), (1, .gen []), (2, .gen []), (3, .gen [])] [73, 1, 6, 8, 10] [] [(73, .bool (decide (((k : Nat) : Int) < (l.length : Nat)))), (1, .slice ad l.length c), (6, .pointer (some ⟨p136, 0, none⟩)), (8, .pointer (some ⟨b141, 0, none⟩)), (10, .int .i64 (k : Nat))] (by kernel_rfl) rfl ak0 ?_
                refine GoR.done (GoQ.thn ?_)
                refine GoC.cond (t := decide (((k : Nat) : Int) < (l.length : Nat))) (by kernel_rfl) (fun h151 => ?_) (fun h151 => ?_)
                · have h151' : ((k : Nat) : Int) < (l.length : Nat) := of_decide_eq_true h151
                  have hk : k < l.length := by omega
                  obtain ⟨ab152, ao153, rfl⟩ := RowsAt.isSome rw2 (by omega)
                  refine GoC.skip (GoQ.thn (GoC.seq (GoC.block (GoC.seq ?_))))
                  refine GoC.regD [0, 0, 3, 7, 15, 0, 0, 96, 224, 511, 1023, 2047, 4095, 4095, 4095, 28671, 61439, 131071, 4095, 4095, 4095, 1576959, 3674111, 8388607, 16777215, 33554431, 67108863, 134217727, 268435455, 536870911, 1073741823, 2147483647, 4294967295, 2147483647, 10737418239, 27917287423, 62277025791, 137438953471, 274877906943, 549755813887, 1099511627775] (.rd 0 (.rd 1 (.rd 2 (.rd 3 (.rd 5 (.rd 6 (.rd 7 (.rd 8 (.ef 4 (.ef 9 (.rd 10 (.rd 11 (.rd 12 (.rd 13 (.rd 14 (.rd 15 (.rd 16 (.rd 18 (.rd 19 (.rd 20 (.rd 21 (.rd 22 (.ef 17 (.ef 23 (.rd 24 (.rd 25 (.rd 26 (.rd 27 (.rd 28 (.rd 29 (.rd 30 (.rd 31 (.rd 33 (.rd 34 (.rd 35 (.rd 36 (.ef 32 (.ef 37 (.rd 38 (.rd 39 (.rd 40 .done))))))))))))))))))))))))))))))))))))))))) (by kernel_rfl) (by kernel_rfl) noPan_body (by kernel_rfl) hs150 ?_
                  intro w154 hs155 hw156
                  refine GoR.phaseK [(0, .gen []), (1, .gen []), (2, .as_ (.pointer (some ⟨ab152, ao153 + (k * 6), none⟩)) .at_), (3, .agg (OpV.cells (l.getD k dOp))), (5, .gen []), (6, .gen []), (7, .as_ (.pointer (some ⟨ab152, ao153 + (k * 6), none⟩)) .at_), (8, .agg (OpV.cells (l.getD k dOp)))] [84, 79, 1, 6, 8, 10] [(2, [.prop (0 ≤ ((k : Nat) : Int) ∧ ((k : Nat) : Int) < ((l.length : Nat) : Int)), .prop (Value.pointer (some (Addr.add ⟨ab152, ao153, none⟩ (Int.toNat (k : Nat) * 6))) = Value.pointer (some ⟨ab152, ao153 + (k * 6), none⟩))]), (3, [.prop (Array.size (OpV.cells (l.getD k dOp)) = 6), .cells ⟨ab152, ao153 + (k * 6), none⟩ (OpV.cells (l.getD k dOp))]), (7, [.prop (0 ≤ ((k : Nat) : Int) ∧ ((k : Nat) : Int) < ((l.length : Nat) : Int)), .prop (Value.pointer (some (Addr.add ⟨ab152, ao153, none⟩ (Int.toNat (k : Nat) * 6))) = Value.pointer (some ⟨ab152, ao153 + (k * 6), none⟩))]), (8, [.prop (Array.size (OpV.cells (l.getD k dOp)) = 6), .cells ⟨ab152, ao153 + (k * 6), none⟩ (OpV.cells (l.getD k dOp))])] [(84, .agg (OpV.cells (l.getD k dOp))), (79, .agg (OpV.cells (l.getD k dOp))), (1, .slice (some ⟨ab152, ao153, none⟩) l.length c), (6, .pointer (some ⟨p136, 0, none⟩)), (8, .pointer (some ⟨b141, 0, none⟩)), (10, .int .i64 (k : Nat))] (by kernel_rfl) rfl (ak (okp (by omega) (okp (ptrAdd _ _ _) ok0)) (ak (okp (by kernel_rfl) (oka (RowsAt.all0 (rw2.base (fun k _ => (opF).size _) hs155 4 rfl) (by first | omega | (simp only [List.length_set]; omega)) (Nat.le_of_ble_eq_true (by kernel_rfl)) (by kernel_rfl)) ok0)) (ak (okp (by omega) (okp (ptrAdd _ _ _) ok0)) (ak (okp (by kernel_rfl) (oka (RowsAt.all0 (rw2.base (fun k _ => (opF).size _) hs155 4 rfl) (by first | omega | (simp only [List.length_set]; omega)) (Nat.le_of_ble_eq_true (by kernel_rfl)) (by kernel_rfl)) ok0)) ak0)))) ?_
                  refine GoR.call rfl rfl (by kernel_rfl) (f := 27) (args := #[.agg (OpV.cells (l.getD k dOp))]) (by kernel_rfl) Tryd.call27 (may_spec (l.getD k dOp)  hs155) ?_
                  rintro v158 w159 ⟨rfl, hs157⟩
                  refine ⟨(opl (n := [.prop (Array.size (OpV.cells (l.getD k dOp)) = 6), .cells ⟨ab152, ao153 + (k * 6), none⟩ (OpV.cells (l.getD k dOp)), .prop (0 ≤ ((k : Nat) : Int) ∧ ((k : Nat) : Int) < ((l.length : Nat) : Int)), .prop (Value.pointer (some (Addr.add ⟨ab152, ao153, none⟩ (Int.toNat (k : Nat) * 6))) = Value.pointer (some ⟨ab152, ao153 + (k * 6), none⟩))]) (by kernel_rfl) (okp (by kernel_rfl) (oka (RowsAt.all0 (rw2.base (fun k _ => (opF).size _) hs157 4 rfl) (by first | omega | (simp only [List.length_set]; omega)) (Nat.le_of_ble_eq_true (by kernel_rfl)) (by kernel_rfl)) (okp (by omega) (okp (ptrAdd _ _ _) ok0))))), ?_⟩
                  refine GoR.call rfl rfl (by kernel_rfl) (f := 31) (args := #[.agg (OpV.cells (l.getD k dOp))]) (by kernel_rfl) Tryd.call31 (rmay_spec (l.getD k dOp)  hs157) ?_
                  rintro v161 w162 ⟨rfl, hs160⟩
                  refine ⟨(opn (by kernel_rfl)), ?_⟩
                  refine GoR.phaseK [(10, .gen []), (11, .gen [])] [87, 1, 6, 8, 10] [] [(87, .bool (!((may (l.getD k dOp)) == (rmay (l.getD k dOp))))), (1, .slice (some ⟨ab152, ao153, none⟩) l.length c), (6, .pointer (some ⟨p136, 0, none⟩)), (8, .pointer (some ⟨b141, 0, none⟩)), (10, .int .i64 (k : Nat))] (by kernel_rfl) rfl ak0 ?_
                  rcases Bool.eq_false_or_eq_true (!((may (l.getD k dOp)) == (rmay (l.getD k dOp)))) with h163 | h163
                  · refine GoR.setB 87 true (by decide) (by kernel_rfl) h163 ?_
                    have h163n : ((may (l.getD k dOp)) == (rmay (l.getD k dOp))) = false := notT h163
                    exact absurd h163 (by rw [rmay_eq]; simp)
                  · refine GoR.setB 87 false (by decide) (by kernel_rfl) h163 ?_
                    have h163n : ((may (l.getD k dOp)) == (rmay (l.getD k dOp))) = true := notF h163
                    refine GoR.phaseK [(12, .gen []), (13, .gen []), (14, .gen []), (15, .as_ (.pointer (some ⟨ab152, ao153 + (k * 6), none⟩)) .at_), (16, .agg (OpV.cells (l.getD k dOp))), (18, .gen []), (19, .gen []), (20, .gen []), (21, .as_ (.pointer (some ⟨ab152, ao153 + (k * 6), none⟩)) .at_), (22, .agg (OpV.cells (l.getD k dOp)))] [98, 94, 92, 88, 87, 1, 6, 8, 10] [(15, [.prop (0 ≤ ((k : Nat) : Int) ∧ ((k : Nat) : Int) < ((l.length : Nat) : Int)), .prop (Value.pointer (some (Addr.add ⟨ab152, ao153, none⟩ (Int.toNat (k : Nat) * 6))) = Value.pointer (some ⟨ab152, ao153 + (k * 6), none⟩))]), (16, [.prop (Array.size (OpV.cells (l.getD k dOp)) = 6), .cells ⟨ab152, ao153 + (k * 6), none⟩ (OpV.cells (l.getD k dOp))]), (21, [.prop (0 ≤ ((k : Nat) : Int) ∧ ((k : Nat) : Int) < ((l.length : Nat) : Int)), .prop (Value.pointer (some (Addr.add ⟨ab152, ao153, none⟩ (Int.toNat (k : Nat) * 6))) = Value.pointer (some ⟨ab152, ao153 + (k * 6), none⟩))]), (22, [.prop (Array.size (OpV.cells (l.getD k dOp)) = 6), .cells ⟨ab152, ao153 + (k * 6), none⟩ (OpV.cells (l.getD k dOp))])] [(98, .agg (OpV.cells (l.getD k dOp))), (94, .pointer (some ⟨b141, 0, none⟩)), (92, .agg (OpV.cells (l.getD k dOp))), (88, .pointer (some ⟨p136, 0, none⟩)), (87, .bool false), (1, .slice (some ⟨ab152, ao153, none⟩) l.length c), (6, .pointer (some ⟨p136, 0, none⟩)), (8, .pointer (some ⟨b141, 0, none⟩)), (10, .int .i64 (k : Nat))] (by kernel_rfl) rfl (ak (okp (by omega) (okp (ptrAdd _ _ _) ok0)) (ak (okp (by kernel_rfl) (oka (RowsAt.all0 (rw2.base (fun k _ => (opF).size _) hs160 4 rfl) (by first | omega | (simp only [List.length_set]; omega)) (Nat.le_of_ble_eq_true (by kernel_rfl)) (by kernel_rfl)) ok0)) (ak (okp (by omega) (okp (ptrAdd _ _ _) ok0)) (ak (okp (by kernel_rfl) (oka (RowsAt.all0 (rw2.base (fun k _ => (opF).size _) hs160 4 rfl) (by first | omega | (simp only [List.length_set]; omega)) (Nat.le_of_ble_eq_true (by kernel_rfl)) (by kernel_rfl)) ok0)) ak0)))) ?_
                    refine GoR.call rfl rfl (by kernel_rfl) (f := 22) (args := #[.pointer (some ⟨p136, 0, none⟩), .agg (OpV.cells (l.getD k dOp))]) (by kernel_rfl) Tryd.call22 (ldo_spec (lfrom ([] : List (ByteArray × ByteArray)) (l.take k)) (l.getD k dOp) (lfrom_inv _ inv_nil).short (fun w h => hLW.base h 2 rfl) (hok _ (getD_mem hk)).amount.1 hs160) ?_
                    rintro v165 w166 ⟨rfl, hs164⟩
                    refine ⟨(opl (n := [.prop (Array.size (OpV.cells (l.getD k dOp)) = 6), .cells ⟨ab152, ao153 + (k * 6), none⟩ (OpV.cells (l.getD k dOp)), .prop (0 ≤ ((k : Nat) : Int) ∧ ((k : Nat) : Int) < ((l.length : Nat) : Int)), .prop (Value.pointer (some (Addr.add ⟨ab152, ao153, none⟩ (Int.toNat (k : Nat) * 6))) = Value.pointer (some ⟨ab152, ao153 + (k * 6), none⟩))]) (by kernel_rfl) (okp (by kernel_rfl) (oka (RowsAt.all0 (rw2.base (fun k _ => (opF).size _) hs164 4 rfl) (by first | omega | (simp only [List.length_set]; omega)) (Nat.le_of_ble_eq_true (by kernel_rfl)) (by kernel_rfl)) (okp (by omega) (okp (ptrAdd _ _ _) ok0))))), ?_⟩
                    have hs167 : St W ((Cel b141 #[.slice adr ((lst (lfrom ([] : List (ByteArray × ByteArray)) (l.take k))).length) cr] 68) :: (Sl adr cr 61 2 ItemV.cells (lst (lfrom ([] : List (ByteArray × ByteArray)) (l.take k)))) :: (Cel p136 #[.map (some r137)] 89) :: (MapA Value.string Value.string r137 ((ldo (lfrom ([] : List (ByteArray × ByteArray)) (l.take k)) (l.getD k dOp)).2)) :: (Base W) :: []) w166 := ((hs164.pull 3 rfl).pull 3 rfl)
                    refine GoR.call rfl rfl (by kernel_rfl) (f := 32) (args := #[.pointer (some ⟨b141, 0, none⟩), .agg (OpV.cells (l.getD k dOp))]) (by kernel_rfl) Tryd.call32 (rdo_spec (lst (lfrom ([] : List (ByteArray × ByteArray)) (l.take k))) (l.getD k dOp) (by rw [lst_length]; exact Nat.le_trans (lfrom_inv _ inv_nil).len (by decide)) (fun x hx => Nat.le_trans ((lfrom_inv _ inv_nil).val _ (lst_mem.1 hx)) (by decide)) (hok _ (getD_mem hk)).amount.1 hs167) ?_
                    rintro v171 w172 ⟨ad168, c169, rfl, hs170⟩
                    refine ⟨(opn (by kernel_rfl)), ?_⟩
                    refine GoR.eqAgg rfl (by kernel_rfl) (b := false) (t := 34) (xs := RepV.cells ((ldo (lfrom ([] : List (ByteArray × ByteArray)) (l.take k)) (l.getD k dOp)).1)) (ys := RepV.cells ((rdo (lst (lfrom ([] : List (ByteArray × ByteArray)) (l.take k))) (l.getD k dOp)).1)) (m := 2) (by kernel_rfl) (by kernel_rfl) (by decide) (by kernel_rfl) (r := !(decide ((ldo (lfrom ([] : List (ByteArray × ByteArray)) (l.take k)) (l.getD k dOp)).1 = (rdo (lst (lfrom ([] : List (ByteArray × ByteArray)) (l.take k))) (l.getD k dOp)).1))) (aggNe  (repEq ((ldo (lfrom ([] : List (ByteArray × ByteArray)) (l.take k)) (l.getD k dOp)).1) ((rdo (lst (lfrom ([] : List (ByteArray × ByteArray)) (l.take k))) (l.getD k dOp)).1))) ?_
                    refine GoR.phaseK [(25, .gen []), (26, .gen [])] [102, 1, 6, 8, 10] [] [(102, .bool (!(decide ((ldo (lfrom ([] : List (ByteArray × ByteArray)) (l.take k)) (l.getD k dOp)).1 = (rdo (lst (lfrom ([] : List (ByteArray × ByteArray)) (l.take k))) (l.getD k dOp)).1)))), (1, .slice (some ⟨ab152, ao153, none⟩) l.length c), (6, .pointer (some ⟨p136, 0, none⟩)), (8, .pointer (some ⟨b141, 0, none⟩)), (10, .int .i64 (k : Nat))] (by kernel_rfl) rfl ak0 ?_
                    rcases Bool.eq_false_or_eq_true (!(decide ((ldo (lfrom ([] : List (ByteArray × ByteArray)) (l.take k)) (l.getD k dOp)).1 = (rdo (lst (lfrom ([] : List (ByteArray × ByteArray)) (l.take k))) (l.getD k dOp)).1))) with h173 | h173
                    · refine GoR.setB 102 true (by decide) (by kernel_rfl) h173 ?_
                      have h173n : (decide ((ldo (lfrom ([] : List (ByteArray × ByteArray)) (l.take k)) (l.getD k dOp)).1 = (rdo (lst (lfrom ([] : List (ByteArray × ByteArray)) (l.take k))) (l.getD k dOp)).1)) = false := notT h173
                      have h173n' : ¬ ((ldo (lfrom ([] : List (ByteArray × ByteArray)) (l.take k)) (l.getD k dOp)).1 = (rdo (lst (lfrom ([] : List (ByteArray × ByteArray)) (l.take k))) (l.getD k dOp)).1) := of_decide_eq_false h173n
                      exact absurd h173 (by rw [rdo_fst (lfrom_inv _ inv_nil)]; simp)
                    · refine GoR.setB 102 false (by decide) (by kernel_rfl) h173 ?_
                      have h173n : (decide ((ldo (lfrom ([] : List (ByteArray × ByteArray)) (l.take k)) (l.getD k dOp)).1 = (rdo (lst (lfrom ([] : List (ByteArray × ByteArray)) (l.take k))) (l.getD k dOp)).1)) = true := notF h173
                      have h173n' : (ldo (lfrom ([] : List (ByteArray × ByteArray)) (l.take k)) (l.getD k dOp)).1 = (rdo (lst (lfrom ([] : List (ByteArray × ByteArray)) (l.take k))) (l.getD k dOp)).1 := of_decide_eq_true h173n
                      refine GoR.phaseK [(27, .gen []), (28, .div ((k : Nat) % 8)), (29, .gen []), (30, .gen [])] [106, 102, 1, 6, 8, 10] [(28, [.prop (IntKind.i64 = IntKind.i64 ∧ (8 : Int) ≠ 0 ∧ Int.tmod (k : Nat) 8 = (k : Nat) % 8)])] [(106, .bool ((((k : Nat) % 8) : Int) == 0)), (102, .bool false), (1, .slice (some ⟨ab152, ao153, none⟩) l.length c), (6, .pointer (some ⟨p136, 0, none⟩)), (8, .pointer (some ⟨b141, 0, none⟩)), (10, .int .i64 (k : Nat))] (by kernel_rfl) rfl (ak (okp ⟨rfl, by decide, Int.tmod_eq_emod_of_nonneg (by omega)⟩ ok0) ak0) ?_
                      rcases Bool.eq_false_or_eq_true ((((k : Nat) % 8) : Int) == 0) with h174 | h174
                      · refine GoR.setB 106 true (by decide) (by kernel_rfl) h174 ?_
                        have h174' : ((k : Nat) % 8 : Int) = 0 := ieqT h174
                        refine GoR.phaseK [(31, .gen []), (33, .gen []), (34, .gen []), (35, .gen []), (36, .gen [.slice ad168 (((rdo (lst (lfrom ([] : List (ByteArray × ByteArray)) (l.take k))) (l.getD k dOp)).2).length) c169])] [112, 107, 106, 102, 1, 6, 8, 10] [(36, [.cell ⟨b141, 0, none⟩ (.slice ad168 (((rdo (lst (lfrom ([] : List (ByteArray × ByteArray)) (l.take k))) (l.getD k dOp)).2).length) c169)])] [(112, .slice ad168 (((rdo (lst (lfrom ([] : List (ByteArray × ByteArray)) (l.take k))) (l.getD k dOp)).2).length) c169), (107, .pointer (some ⟨p136, 0, none⟩)), (106, .bool true), (102, .bool false), (1, .slice (some ⟨ab152, ao153, none⟩) l.length c), (6, .pointer (some ⟨p136, 0, none⟩)), (8, .pointer (some ⟨b141, 0, none⟩)), (10, .int .i64 (k : Nat))] (by kernel_rfl) rfl (ak (okc (hs170.cell 0 rfl (by kernel_rfl)) ok0) ak0) ?_
                        have hs175 : St W ((Cel p136 #[.map (some r137)] 89) :: (MapA Value.string Value.string r137 ((ldo (lfrom ([] : List (ByteArray × ByteArray)) (l.take k)) (l.getD k dOp)).2)) :: (Cel b141 #[.slice ad168 (((rdo (lst (lfrom ([] : List (ByteArray × ByteArray)) (l.take k))) (l.getD k dOp)).2).length) c169] 68) :: (Sl ad168 c169 61 2 ItemV.cells ((rdo (lst (lfrom ([] : List (ByteArray × ByteArray)) (l.take k))) (l.getD k dOp)).2)) :: (Base W) :: []) w172 := ((hs170.pull 3 rfl).pull 3 rfl)
                        refine GoR.call rfl rfl (by kernel_rfl) (f := 23) (args := #[.pointer (some ⟨p136, 0, none⟩)]) (by kernel_rfl) Tryd.call23 (list_spec ((ldo (lfrom ([] : List (ByteArray × ByteArray)) (l.take k)) (l.getD k dOp)).2) (Nat.le_trans (ldo_inv _ (lfrom_inv _ inv_nil)).len (by decide)) hs175) ?_
                        rintro v179 w180 ⟨ad176, c177, rfl, hs178⟩
                        refine ⟨(opl (n := [.cell ⟨b141, 0, none⟩ (.slice ad168 (((rdo (lst (lfrom ([] : List (ByteArray × ByteArray)) (l.take k))) (l.getD k dOp)).2).length) c169)]) (by kernel_rfl) (okc (hs178.cell 3 rfl (by kernel_rfl)) ok0)), ?_⟩
                        refine GoR.call rfl rfl (by kernel_rfl) (f := 25) (args := #[.slice ad176 ((lst ((ldo (lfrom ([] : List (ByteArray × ByteArray)) (l.take k)) (l.getD k dOp)).2)).length) c177, .slice ad168 (((rdo (lst (lfrom ([] : List (ByteArray × ByteArray)) (l.take k))) (l.getD k dOp)).2).length) c169]) (by kernel_rfl) Tryd.call25 (same_spec (lst ((ldo (lfrom ([] : List (ByteArray × ByteArray)) (l.take k)) (l.getD k dOp)).2)) ((rdo (lst (lfrom ([] : List (ByteArray × ByteArray)) (l.take k))) (l.getD k dOp)).2) (by rw [lst_length]; exact Nat.le_trans (ldo_inv _ (lfrom_inv _ inv_nil)).len (by decide)) (by rw [rdo_snd (lfrom_inv _ inv_nil), lst_length]; exact Nat.le_trans (ldo_inv _ (lfrom_inv _ inv_nil)).len (by decide)) (fun w h => h.rows 0 rfl (itemF).size _) (fun w h => h.rows 4 rfl (itemF).size _) hs178) ?_
                        rintro v182 w183 ⟨rfl, hs181⟩
                        refine ⟨(opn (by kernel_rfl)), ?_⟩
                        refine GoR.phaseK [(38, .gen []), (39, .gen []), (40, .gen [])] [116, 1, 6, 8, 10] [] [(116, .bool (!(decide ((lst ((ldo (lfrom ([] : List (ByteArray × ByteArray)) (l.take k)) (l.getD k dOp)).2)) = ((rdo (lst (lfrom ([] : List (ByteArray × ByteArray)) (l.take k))) (l.getD k dOp)).2))))), (1, .slice (some ⟨ab152, ao153, none⟩) l.length c), (6, .pointer (some ⟨p136, 0, none⟩)), (8, .pointer (some ⟨b141, 0, none⟩)), (10, .int .i64 (k : Nat))] (by kernel_rfl) rfl ak0 ?_
                        refine GoR.done (GoQ.thn ?_)
                        refine GoC.cond (t := !(decide ((lst ((ldo (lfrom ([] : List (ByteArray × ByteArray)) (l.take k)) (l.getD k dOp)).2)) = ((rdo (lst (lfrom ([] : List (ByteArray × ByteArray)) (l.take k))) (l.getD k dOp)).2)))) (by kernel_rfl) (fun h184 => ?_) (fun h184 => ?_)
                        · have h184n : (decide ((lst ((ldo (lfrom ([] : List (ByteArray × ByteArray)) (l.take k)) (l.getD k dOp)).2)) = ((rdo (lst (lfrom ([] : List (ByteArray × ByteArray)) (l.take k))) (l.getD k dOp)).2))) = false := notT h184
                          have h184n' : ¬ ((lst ((ldo (lfrom ([] : List (ByteArray × ByteArray)) (l.take k)) (l.getD k dOp)).2)) = ((rdo (lst (lfrom ([] : List (ByteArray × ByteArray)) (l.take k))) (l.getD k dOp)).2)) := of_decide_eq_false h184n
                          exact absurd h184 (by rw [rdo_snd (lfrom_inv _ inv_nil)]; simp)
                        · have h184n : (decide ((lst ((ldo (lfrom ([] : List (ByteArray × ByteArray)) (l.take k)) (l.getD k dOp)).2)) = ((rdo (lst (lfrom ([] : List (ByteArray × ByteArray)) (l.take k))) (l.getD k dOp)).2))) = true := notF h184
                          have h184n' : (lst ((ldo (lfrom ([] : List (ByteArray × ByteArray)) (l.take k)) (l.getD k dOp)).2)) = ((rdo (lst (lfrom ([] : List (ByteArray × ByteArray)) (l.take k))) (l.getD k dOp)).2) := of_decide_eq_true h184n
                          refine GoC.skip (GoQ.blkN (GoQ.thn ?_))
                          refine GoC.regT [7, 7, 7] (.rd 0 (.rd 1 (.rd 2 .done))) (by kernel_rfl) (by kernel_rfl) ?_
                          refine GoR.phaseK [(0, .gen []), (1, .as_ (.int .i64 ((k : Nat) + 1)) (.gen [])), (2, .gen [])] [10, 1, 6, 8] [(1, [.prop (Value.int .i64 (IntKind.i64.wrap ((k : Nat) + 1)) = Value.int .i64 ((k : Nat) + 1))])] [(10, .int .i64 ((k : Nat) + 1)), (1, .slice (some ⟨ab152, ao153, none⟩) l.length c), (6, .pointer (some ⟨p136, 0, none⟩)), (8, .pointer (some ⟨b141, 0, none⟩))] (by kernel_rfl) rfl (ak (okp (i64ok (by omega) (by omega)) ok0) ak0) ?_
                          refine GoR.done ?_
                          have hs185 : St W ((Cel p136 #[.map (some r137)] 89) :: (MapA Value.string Value.string r137 ((ldo (lfrom ([] : List (ByteArray × ByteArray)) (l.take k)) (l.getD k dOp)).2)) :: (Cel b141 #[.slice ad168 (((rdo (lst (lfrom ([] : List (ByteArray × ByteArray)) (l.take k))) (l.getD k dOp)).2).length) c169] 68) :: (Sl ad168 c169 61 2 ItemV.cells ((rdo (lst (lfrom ([] : List (ByteArray × ByteArray)) (l.take k))) (l.getD k dOp)).2)) :: (Base W) :: []) w183 := hs181.drop 1
                          rw [rdo_snd (lfrom_inv _ inv_nil), ← lfrom_succ (d := dOp) hk] at hs185
                          exact GoQ.back (k + 1, ad168, c169) [1, 6, 8, 10] (by kernel_rfl) (by show l.length - (k + 1) < l.length - k; omega) ⟨by omega, hs185⟩
                      · refine GoR.setB 106 false (by decide) (by kernel_rfl) h174 ?_
                        have h174' : ¬ (((k : Nat) % 8 : Int) = 0) := ieqF h174
                        refine GoR.phaseK [(31, .gen []), (33, .gen []), (34, .gen []), (35, .gen []), (36, .gen [])] [112, 107, 106, 102, 1, 6, 8, 10] [] [(112, undef), (107, undef), (106, .bool false), (102, .bool false), (1, .slice (some ⟨ab152, ao153, none⟩) l.length c), (6, .pointer (some ⟨p136, 0, none⟩)), (8, .pointer (some ⟨b141, 0, none⟩)), (10, .int .i64 (k : Nat))] (by kernel_rfl) rfl ak0 ?_
                        refine GoR.skip rfl (by kernel_rfl) (opn (by kernel_rfl)) ?_
                        refine GoR.skip rfl (by kernel_rfl) (opn (by kernel_rfl)) ?_
                        refine GoR.phaseK [(38, .gen []), (39, .gen []), (40, .gen [])] [116, 1, 6, 8, 10] [] [(116, .bool false), (1, .slice (some ⟨ab152, ao153, none⟩) l.length c), (6, .pointer (some ⟨p136, 0, none⟩)), (8, .pointer (some ⟨b141, 0, none⟩)), (10, .int .i64 (k : Nat))] (by kernel_rfl) rfl ak0 ?_
                        refine GoR.done (GoQ.thn (GoC.condF (by kernel_rfl) (GoC.skip (GoQ.blkN (GoQ.thn ?_)))))
                        refine GoC.regT [7, 7, 7] (.rd 0 (.rd 1 (.rd 2 .done))) (by kernel_rfl) (by kernel_rfl) ?_
                        refine GoR.phaseK [(0, .gen []), (1, .as_ (.int .i64 ((k : Nat) + 1)) (.gen [])), (2, .gen [])] [10, 1, 6, 8] [(1, [.prop (Value.int .i64 (IntKind.i64.wrap ((k : Nat) + 1)) = Value.int .i64 ((k : Nat) + 1))])] [(10, .int .i64 ((k : Nat) + 1)), (1, .slice (some ⟨ab152, ao153, none⟩) l.length c), (6, .pointer (some ⟨p136, 0, none⟩)), (8, .pointer (some ⟨b141, 0, none⟩))] (by kernel_rfl) rfl (ak (okp (i64ok (by omega) (by omega)) ok0) ak0) ?_
                        refine GoR.done ?_
                        have hs186 : St W ((Cel p136 #[.map (some r137)] 89) :: (MapA Value.string Value.string r137 ((ldo (lfrom ([] : List (ByteArray × ByteArray)) (l.take k)) (l.getD k dOp)).2)) :: (Cel b141 #[.slice ad168 (((rdo (lst (lfrom ([] : List (ByteArray × ByteArray)) (l.take k))) (l.getD k dOp)).2).length) c169] 68) :: (Sl ad168 c169 61 2 ItemV.cells ((rdo (lst (lfrom ([] : List (ByteArray × ByteArray)) (l.take k))) (l.getD k dOp)).2)) :: (Base W) :: []) w172 := (((((hs170.pull 4 rfl).pull 2 rfl).pull 2 rfl).pull 4 rfl).pull 4 rfl)
                        rw [rdo_snd (lfrom_inv _ inv_nil), ← lfrom_succ (d := dOp) hk] at hs186
                        exact GoQ.back (k + 1, ad168, c169) [1, 6, 8, 10] (by kernel_rfl) (by show l.length - (k + 1) < l.length - k; omega) ⟨by omega, hs186⟩
                · have h151' : ¬ (((k : Nat) : Int) < (l.length : Nat)) := of_decide_eq_false h151
                  have hall : l.take k = l := List.take_of_length_le (by omega)
                  rw [hall] at hs150
                  refine GoC.exit (GoQ.skipC (GoQ.skipL (GoQ.hit (GoQ.thn (GoC.seq ?_)))))
                  refine GoC.regT [7, 7, 7] (.rd 0 (.ef 1 (.rd 2 .done))) (by kernel_rfl) (by kernel_rfl) ?_
                  refine GoR.phaseK [(0, .gen [])] [117, 6, 8] [] [(117, .pointer (some ⟨p136, 0, none⟩)), (6, .pointer (some ⟨p136, 0, none⟩)), (8, .pointer (some ⟨b141, 0, none⟩))] (by kernel_rfl) rfl ak0 ?_
                  refine GoR.call rfl rfl (by kernel_rfl) (f := 23) (args := #[.pointer (some ⟨p136, 0, none⟩)]) (by kernel_rfl) Tryd.call23 (list_spec (lfrom ([] : List (ByteArray × ByteArray)) l) (Nat.le_trans (lfrom_inv _ inv_nil).len (by decide)) hs150) ?_
                  rintro v190 w191 ⟨ad187, c188, rfl, hs189⟩
                  refine ⟨(opn (by kernel_rfl)), ?_⟩
                  refine GoR.phaseK [(2, .gen [])] [11, 6, 8] [] [(11, .slice ad187 ((lst (lfrom ([] : List (ByteArray × ByteArray)) l)).length) c188), (6, .pointer (some ⟨p136, 0, none⟩)), (8, .pointer (some ⟨b141, 0, none⟩))] (by kernel_rfl) rfl ak0 ?_
                  refine GoR.done (GoQ.thn (GoC.seq (GoC.seq ?_)))
                  refine GoC.regT [1] (.rd 0 .done) (by kernel_rfl) (by kernel_rfl) ?_
                  refine GoR.phaseK [(0, .gen [])] [12, 11, 6, 8] [] [(12, .int .i64 0), (11, .slice ad187 ((lst (lfrom ([] : List (ByteArray × ByteArray)) l)).length) c188), (6, .pointer (some ⟨p136, 0, none⟩)), (8, .pointer (some ⟨b141, 0, none⟩))] (by kernel_rfl) rfl ak0 ?_
                  refine GoR.done (GoQ.thn (GoC.block ?_))
                  have hml : (lst (lfrom ([] : List (ByteArray × ByteArray)) l)).length ≤ 64 := by rw [lst_length]; exact (lfrom_inv _ inv_nil).len
                  refine GoC.loop (T := Nat × (List ItemV)) (fun gg => [(6, .pointer (some ⟨p136, 0, none⟩)), (8, .pointer (some ⟨b141, 0, none⟩)), (11, .slice ad187 ((lst (lfrom ([] : List (ByteArray × ByteArray)) l)).length) c188), (12, .int .i64 (gg.1 : Nat))]) (fun gg w => (gg.1 ≤ (lst (lfrom ([] : List (ByteArray × ByteArray)) l)).length ∧ gg.2.length = (lst (lfrom ([] : List (ByteArray × ByteArray)) l)).length) ∧ St W ((Sl ad187 c188 61 2 ItemV.cells gg.2) :: (Cel p136 #[.map (some r137)] 89) :: (MapA Value.string Value.string r137 (lfrom ([] : List (ByteArray × ByteArray)) l)) :: (Cel b141 #[.slice adr ((lst (lfrom ([] : List (ByteArray × ByteArray)) l)).length) cr] 68) :: (Sl adr cr 61 2 ItemV.cells (lst (lfrom ([] : List (ByteArray × ByteArray)) l))) :: (Base W) :: []) w) (fun gg => (lst (lfrom ([] : List (ByteArray × ByteArray)) l)).length - gg.1) (0, (lst (lfrom ([] : List (ByteArray × ByteArray)) l))) [6, 8, 11, 12] (by kernel_rfl) ⟨⟨Nat.zero_le _, rfl⟩, hs189⟩ ?_
                  rintro ⟨j, ol⟩ w192 ⟨hj0, hs193⟩
                  have hj : j ≤ (lst (lfrom ([] : List (ByteArray × ByteArray)) l)).length ∧ ol.length = (lst (lfrom ([] : List (ByteArray × ByteArray)) l)).length := hj0
                  have hs194 : St W ((Sl ad187 c188 61 2 ItemV.cells ol) :: (Cel p136 #[.map (some r137)] 89) :: (MapA Value.string Value.string r137 (lfrom ([] : List (ByteArray × ByteArray)) l)) :: (Cel b141 #[.slice adr ((lst (lfrom ([] : List (ByteArray × ByteArray)) l)).length) cr] 68) :: (Sl adr cr 61 2 ItemV.cells (lst (lfrom ([] : List (ByteArray × ByteArray)) l))) :: (Base W) :: []) w192 := hs193
                  refine GoC.slots (S' := [(6, .pointer (some ⟨p136, 0, none⟩)), (8, .pointer (some ⟨b141, 0, none⟩)), (11, .slice ad187 ((lst (lfrom ([] : List (ByteArray × ByteArray)) l)).length) c188), (12, .int .i64 (j : Nat))]) rfl ?_
                  refine GoC.seq (GoC.seq ?_)
                  refine GoC.regT [15, 15, 15, 15] (.rd 0 (.rd 1 (.rd 2 (.rd 3 .done)))) (by kernel_rfl) (by kernel_rfl) ?_
                  refine GoR.phaseK [(0, .gen []), (1, .gen []), (2, .gen []), (3, .gen [])] [122, 6, 8, 11, 12] [] [(122, .bool (decide (((j : Nat) : Int) < ((lst (lfrom ([] : List (ByteArray × ByteArray)) l)).length : Nat)))), (6, .pointer (some ⟨p136, 0, none⟩)), (8, .pointer (some ⟨b141, 0, none⟩)), (11, .slice ad187 ((lst (lfrom ([] : List (ByteArray × ByteArray)) l)).length) c188), (12, .int .i64 (j : Nat))] (by kernel_rfl) rfl ak0 ?_
                  refine GoR.done (GoQ.thn ?_)
                  refine GoC.cond (t := decide (((j : Nat) : Int) < ((lst (lfrom ([] : List (ByteArray × ByteArray)) l)).length : Nat))) (by kernel_rfl) (fun h195 => ?_) (fun h195 => ?_)
                  · have h195' : ((j : Nat) : Int) < ((lst (lfrom ([] : List (ByteArray × ByteArray)) l)).length : Nat) := of_decide_eq_true h195
                    have hk2 : j < ol.length := by omega
                    obtain ⟨ab196, rfl⟩ := Sl.isSome (hs194.at_ 0 rfl) (by omega)
                    refine GoC.skip (GoQ.thn (GoC.seq (GoC.block ?_)))
                    refine GoC.regT [31, 31, 31, 31, 31] (.rd 0 (.rd 1 (.rd 2 (.rd 3 (.ef 4 .done))))) (by kernel_rfl) (by kernel_rfl) ?_
                    refine GoR.phaseK [(0, .gen []), (1, .gen []), (2, .as_ (.pointer (some ⟨ab196, 0 + (j * 2), none⟩)) .at_), (3, .gen [])] [128, 6, 8, 11, 12] [(2, [.prop (0 ≤ ((j : Nat) : Int) ∧ ((j : Nat) : Int) < (((lst (lfrom ([] : List (ByteArray × ByteArray)) l)).length : Nat) : Int)), .prop (Value.pointer (some (Addr.add ⟨ab196, 0, none⟩ (Int.toNat (j : Nat) * 2))) = Value.pointer (some ⟨ab196, 0 + (j * 2), none⟩))])] [(128, .pointer (some ⟨ab196, 0 + (j * 2) + 1, none⟩)), (6, .pointer (some ⟨p136, 0, none⟩)), (8, .pointer (some ⟨b141, 0, none⟩)), (11, .slice (some ⟨ab196, 0, none⟩) ((lst (lfrom ([] : List (ByteArray × ByteArray)) l)).length) c188), (12, .int .i64 (j : Nat))] (by kernel_rfl) rfl (ak (okp (by omega) (okp (ptrAdd _ _ _) ok0)) ak0) ?_
                    refine GoR.storeSl rfl rfl (by kernel_rfl) (b := ab196) (off := 0 + (j * 2) + 1) (v := .string (⟨#[116, 117, 114, 110, 101, 100]⟩ : ByteArray)) (by kernel_rfl) (by kernel_rfl) (ti := Tryd.t9) (by kernel_rfl) hs194 0 (itemF).size rfl (by kernel_rfl) (by kernel_rfl) (by rw [Nat.zero_add]; exact field_room (f := ItemV.cells) (size := 2) (l := ol) (k := j) (o := 1) (n := 1) (itemF).size (by first | omega | (simp only [List.length_set]; omega)) (by decide)) (List.length_set ..) (xs' := (ol).set j (⟨(ol.getD j dItem).key, (⟨#[116, 117, 114, 110, 101, 100]⟩ : ByteArray)⟩ : ItemV)) (by rw [Nat.zero_add]; exact splice_field (f := ItemV.cells) (size := 2) (l := ol) (k := j) (o := 1) (itemF).size (by first | omega | (simp only [List.length_set]; omega)) dItem (⟨(ol.getD j dItem).key, (⟨#[116, 117, 114, 110, 101, 100]⟩ : ByteArray)⟩ : ItemV) (by decide) (by kernel_rfl)) (L' := (Sl (some ⟨ab196, 0, none⟩) c188 61 2 ItemV.cells ((ol).set j (⟨(ol.getD j dItem).key, (⟨#[116, 117, 114, 110, 101, 100]⟩ : ByteArray)⟩ : ItemV))) :: (Cel p136 #[.map (some r137)] 89) :: (MapA Value.string Value.string r137 (lfrom ([] : List (ByteArray × ByteArray)) l)) :: (Cel b141 #[.slice adr ((lst (lfrom ([] : List (ByteArray × ByteArray)) l)).length) cr] 68) :: (Sl adr cr 61 2 ItemV.cells (lst (lfrom ([] : List (ByteArray × ByteArray)) l))) :: (Base W) :: []) rfl ?_
                    intro w198 hs199
                    refine ⟨(opn (by kernel_rfl)), ?_⟩
                    refine GoR.done (GoQ.blkN (GoQ.thn ?_))
                    refine GoC.regT [7, 7, 7] (.rd 0 (.rd 1 (.rd 2 .done))) (by kernel_rfl) (by kernel_rfl) ?_
                    refine GoR.phaseK [(0, .gen []), (1, .as_ (.int .i64 ((j : Nat) + 1)) (.gen [])), (2, .gen [])] [12, 6, 8, 11] [(1, [.prop (Value.int .i64 (IntKind.i64.wrap ((j : Nat) + 1)) = Value.int .i64 ((j : Nat) + 1))])] [(12, .int .i64 ((j : Nat) + 1)), (6, .pointer (some ⟨p136, 0, none⟩)), (8, .pointer (some ⟨b141, 0, none⟩)), (11, .slice (some ⟨ab196, 0, none⟩) ((lst (lfrom ([] : List (ByteArray × ByteArray)) l)).length) c188)] (by kernel_rfl) rfl (ak (okp (i64ok (by omega) (by omega)) ok0) ak0) ?_
                    refine GoR.done ?_
                    exact GoQ.back (j + 1, (ol).set j (⟨(ol.getD j dItem).key, (⟨#[116, 117, 114, 110, 101, 100]⟩ : ByteArray)⟩ : ItemV)) [6, 8, 11, 12] (by kernel_rfl) (by show (lst (lfrom ([] : List (ByteArray × ByteArray)) l)).length - (j + 1) < (lst (lfrom ([] : List (ByteArray × ByteArray)) l)).length - j; omega) ⟨⟨by omega, by rw [List.length_set]; exact hj.2⟩, hs199⟩
                  · have h195' : ¬ (((j : Nat) : Int) < ((lst (lfrom ([] : List (ByteArray × ByteArray)) l)).length : Nat)) := of_decide_eq_false h195
                    refine GoC.exit (GoQ.skipC (GoQ.skipL (GoQ.hit (GoQ.thn (GoC.seq ?_)))))
                    refine GoC.regD [0, 1, 0, 4, 12, 28, 63, 127, 255, 511, 1023] (.rd 0 (.rd 2 (.rd 3 (.rd 4 (.rd 5 (.ef 1 (.ef 6 (.rd 7 (.ef 8 (.rd 9 (.rd 10 .done))))))))))) (by kernel_rfl) (by kernel_rfl) noPan_body (by kernel_rfl) hs194 ?_
                    intro w200 hs201 hw202
                    refine GoR.phaseK [(0, .gen []), (2, .gen []), (3, .gen []), (4, .gen []), (5, .gen [.slice adr ((lst (lfrom ([] : List (ByteArray × ByteArray)) l)).length) cr])] [134, 129] [(5, [.cell ⟨b141, 0, none⟩ (.slice adr ((lst (lfrom ([] : List (ByteArray × ByteArray)) l)).length) cr)])] [(134, .slice adr ((lst (lfrom ([] : List (ByteArray × ByteArray)) l)).length) cr), (129, .pointer (some ⟨p136, 0, none⟩))] (by kernel_rfl) rfl (ak (okc (hs201.cell 3 rfl (by kernel_rfl)) ok0) ak0) ?_
                    have hs203 : St W ((Cel p136 #[.map (some r137)] 89) :: (MapA Value.string Value.string r137 (lfrom ([] : List (ByteArray × ByteArray)) l)) :: (Sl ad187 c188 61 2 ItemV.cells ol) :: (Cel b141 #[.slice adr ((lst (lfrom ([] : List (ByteArray × ByteArray)) l)).length) cr] 68) :: (Sl adr cr 61 2 ItemV.cells (lst (lfrom ([] : List (ByteArray × ByteArray)) l))) :: (Base W) :: []) w200 := ((hs201.pull 2 rfl).pull 2 rfl)
                    refine GoR.call rfl rfl (by kernel_rfl) (f := 23) (args := #[.pointer (some ⟨p136, 0, none⟩)]) (by kernel_rfl) Tryd.call23 (list_spec (lfrom ([] : List (ByteArray × ByteArray)) l) (Nat.le_trans (lfrom_inv _ inv_nil).len (by decide)) hs203) ?_
                    rintro v207 w208 ⟨ad204, c205, rfl, hs206⟩
                    refine ⟨(opl (n := [.cell ⟨b141, 0, none⟩ (.slice adr ((lst (lfrom ([] : List (ByteArray × ByteArray)) l)).length) cr)]) (by kernel_rfl) (okc (hs206.cell 4 rfl (by kernel_rfl)) ok0)), ?_⟩
                    refine GoR.call rfl rfl (by kernel_rfl) (f := 25) (args := #[.slice ad204 ((lst (lfrom ([] : List (ByteArray × ByteArray)) l)).length) c205, .slice adr ((lst (lfrom ([] : List (ByteArray × ByteArray)) l)).length) cr]) (by kernel_rfl) Tryd.call25 (same_spec (lst (lfrom ([] : List (ByteArray × ByteArray)) l)) (lst (lfrom ([] : List (ByteArray × ByteArray)) l)) (by rw [lst_length]; exact Nat.le_trans (lfrom_inv _ inv_nil).len (by decide)) (by rw [lst_length]; exact Nat.le_trans (lfrom_inv _ inv_nil).len (by decide)) (fun w h => h.rows 0 rfl (itemF).size _) (fun w h => h.rows 5 rfl (itemF).size _) hs206) ?_
                    rintro v210 w211 ⟨rfl, hs209⟩
                    refine ⟨(opn (by kernel_rfl)), ?_⟩
                    refine GoR.phaseK [(7, .gen [])] [136] [] [(136, .bool (decide ((lst (lfrom ([] : List (ByteArray × ByteArray)) l)) = (lst (lfrom ([] : List (ByteArray × ByteArray)) l)))))] (by kernel_rfl) rfl ak0 ?_
                    rcases Bool.eq_false_or_eq_true (decide ((lst (lfrom ([] : List (ByteArray × ByteArray)) l)) = (lst (lfrom ([] : List (ByteArray × ByteArray)) l)))) with h212 | h212
                    · refine GoR.setB 136 true (by decide) (by kernel_rfl) h212 ?_
                      have h212' : (lst (lfrom ([] : List (ByteArray × ByteArray)) l)) = (lst (lfrom ([] : List (ByteArray × ByteArray)) l)) := of_decide_eq_true h212
                      refine GoR.call rfl rfl (by kernel_rfl) (f := 21) (args := #[]) (by kernel_rfl) Tryd.call21 (works_spec (fun w h => hLW.base h 6 rfl) hs209) ?_
                      rintro v214 w215 ⟨rfl, hs213⟩
                      refine ⟨(opn (by kernel_rfl)), ?_⟩
                      refine GoR.phaseK [(9, .gen []), (10, .gen [])] [4] [] [(4, .bool true)] (by kernel_rfl) rfl ak0 ?_
                      refine GoR.done (GoQ.thn (GoC.ret ?_))
                      refine GoQ.done (.inl rfl) (v := .bool true) (fun a hf => results1 rfl (by kernel_rfl) a hf) ?_
                      exact ⟨rfl, hs213.below 6 rfl⟩
                    · refine GoR.setB 136 false (by decide) (by kernel_rfl) h212 ?_
                      have h212' : ¬ ((lst (lfrom ([] : List (ByteArray × ByteArray)) l)) = (lst (lfrom ([] : List (ByteArray × ByteArray)) l))) := of_decide_eq_false h212
                      exact absurd h212 (by simp)
              · have h135' : (ofErr items : Int) = 0 := ineF h135
                exact absurd (ineF h135) (ofErr_ne _)
end Go.Proofs.YtkeckbgkhpaofaaDoor
