/-
  Calls and requests of one name; what was answered otherwise. Conditions: none beside each theorem's own.
-/
import Derived.Test.YtbmmknchcdhefaaGreatDoorSxT
import Derived.Test.YtbmmknchcdhefaaGreatDoorHisC
namespace Go.Proofs.YtbmmknchcdhefaaGreatDoor
open Go.RowKit Go.Sx
set_option linter.unusedVariables false
set_option linter.unusedSimpArgs false
set_option linter.unnecessarySimpa false
set_option maxRecDepth 100000
def metL {α : Type} (nm : α → NameV) (l : List α) (i : Nat) : List (NameV × Int) := ((l.take i).map nm).foldl (fun m k => aset m k 1) []
theorem metL_succ {α : Type} {nm : α → NameV} {l : List α} {i : Nat} (d : α) (hi : i < l.length) : metL nm l (i + 1) = aset (metL nm l i) (nm (l.getD i d)) 1 := by
  unfold metL
  rw [take_succ_getD (d := d) hi, List.map_append, List.foldl_append]
  rfl
def twP {α : Type} (nm : α → NameV) (d : α) (l : List α) (i : Nat) : Bool := decide ((aget (metL nm l i) (nm (l.getD i d))).getD 0 > 0)
def twO {α : Type} (nm : α → NameV) (d : α) (l : List α) : Option Nat := firstO l.length (twP nm d l)
theorem twC1_spec {w0 w : World} {L : List Asn} {bn : Nat} {bl : Nat} {bm : Nat} {r : Nat} {al : Option Addr} {cl : Nat} (l : List CallV) (i : Nat) (hlen : l.length ≤ 1000000) (hi : i < l.length) (hr : ∀ w, St w0 L w → RowsAt w al l.length 13 (fun k => CallV.cells (l.getD k dCall))) (hs : St w0 ((Cel bn #[.func (.func 21) #[] #[]] 67) :: (Cel bl #[.slice al l.length cl] 22) :: (Cel bm #[.map (some r)] 91) :: (MapA ekN evI r (metL nameOf l i)) :: L) w) : Calls Tryz.prog 41 #[.int .i64 (i : Nat), vp bn 0, vp bl 0, vp bm 0] w (Ret fun rv w' => rv = .bool (twP nameOf dCall l i) ∧ St w0 ((Cel bn #[.func (.func 21) #[] #[]] 67) :: (Cel bl #[.slice al l.length cl] 22) :: (Cel bm #[.map (some r)] 91) :: (MapA ekN evI r (metL nameOf l (i + 1))) :: L) w') := by
  refine enter (args := [.int .i64 (i : Nat), vp bn 0, vp bl 0, vp bm 0]) Tryz.func41 rfl Tryz.ntmps41 (Nat.le_of_ble_eq_true (by kernel_rfl)) ?_
  refine GoC.slots (S' := [(0, .int .i64 (i : Nat)), (1, vp bn 0), (2, vp bl 0), (3, vp bm 0)]) rfl ?_
  refine GoC.seq ?_
  refine Xt (.rd 0 .done) ?_
  refine Xk [(0, .gen [])] [] [(5, .bool false), (0, .int .i64 (i : Nat)), (1, vp bn 0), (2, vp bl 0), (3, vp bm 0)] ak0 ?_
  refine GoR.done (GoQ.thn (GoC.seq ?_))
  obtain ⟨ab1, ao2, rfl⟩ := RowsAt.isSome (hr _ (hs.drop 4)) (by omega)
  refine GoC.join (T := Nat) (E := fun jx => [(3, vp bm 0), (5, .bool false), (6, vp jx 0)]) (F := fun jx w => St w0 ((Cel jx (NameV.cells (nameOf (l.getD i dCall))) 73) :: (Cel bn #[.func (.func 21) #[] #[]] 67) :: (Cel bl #[vl ab1 ao2 l.length cl] 22) :: (Cel bm #[.map (some r)] 91) :: (MapA ekN evI r (metL nameOf l i)) :: L) w) ?_ ?_
  · refine GoC.regD [0, 0, 0, 6, 14, 31, 0, 127] (.rd 0 (.rd 1 (.rd 2 (.rd 3 (.rd 4 (.alt (.ef 5 (.ef 6 (.ef 7 .done))) (.ef 6 (.ef 5 (.ef 7 .done))))))))) (by kernel_rfl) (by kernel_rfl) noPan_body (by kernel_rfl) hs ?_
    intro w3 hs4 hw5
    refine Xk [(0, .gen [.func (.func 21) #[] #[]]), (1, .gen [vl ab1 ao2 l.length cl]), (2, .gen []), (3, .as_ (vp ab1 (ao2 + (i * 13))) .at_), (4, .agg (CallV.cells (l.getD i dCall)))] [(0, [.cell ⟨bn, 0, none⟩ (.func (.func 21) #[] #[])]), (1, [.cell ⟨bl, 0, none⟩ (vl ab1 ao2 l.length cl)]), (3, [.prop (0 ≤ ((i : Nat) : Int) ∧ ((i : Nat) : Int) < ((l.length : Nat) : Int)), .prop (Value.pointer (some (Addr.add ⟨ab1, ao2, none⟩ (Int.toNat (i : Nat) * 13))) = Value.pointer (some ⟨ab1, ao2 + (i * 13), none⟩))]), (4, [.prop (Array.size (CallV.cells (l.getD i dCall)) = 13), .cells ⟨ab1, ao2 + (i * 13), none⟩ (CallV.cells (l.getD i dCall))])] [(12, .agg (CallV.cells (l.getD i dCall))), (8, .func (.func 21) #[] #[]), (5, .bool false), (3, vp bm 0)] (ak (okc (hs4.cell 0 rfl (by kernel_rfl)) ok0) (ak (okc (hs4.cell 1 rfl (by kernel_rfl)) ok0) (ak (okp (by omega) (okp (ptrAdd _ _ _) ok0)) (ak (okp (by kernel_rfl) (oka (RowsAt.all0 (hr _ (hs4.drop 4)) (by first | omega | (simp only [List.length_set]; omega) | (simp only [List.length_set, List.length_append, List.length_cons, List.length_nil]; omega)) (Nat.le_of_ble_eq_true (by kernel_rfl)) (by kernel_rfl)) ok0)) ak0)))) ?_
    refine GoR.alt ?_ ?_
    · refine Xa (f := 21) (args := #[.agg (CallV.cells (l.getD i dCall))]) Tryz.call21 (nameOf_spec (l.getD i dCall)  hs4) ?_
      rintro v7 w8 ⟨rfl, hs6⟩
      refine ⟨Xo, ?_⟩
      refine GoR.alloc rfl rfl (by kernel_rfl) (z := .agg #[.int .i64 0, .int .u64 0]) (by kernel_rfl) hs6 (cs := #[.int .i64 0, .int .u64 0]) (by kernel_rfl) ?_
      intro b9 w10 hs11
      refine ⟨(opl (n := [.prop (Array.size (CallV.cells (l.getD i dCall)) = 13), .cells ⟨ab1, ao2 + (i * 13), none⟩ (CallV.cells (l.getD i dCall)), .prop (0 ≤ ((i : Nat) : Int) ∧ ((i : Nat) : Int) < ((l.length : Nat) : Int)), .prop (Value.pointer (some (Addr.add ⟨ab1, ao2, none⟩ (Int.toNat (i : Nat) * 13))) = Value.pointer (some ⟨ab1, ao2 + (i * 13), none⟩)), .cell ⟨bl, 0, none⟩ (vl ab1 ao2 l.length cl), .cell ⟨bn, 0, none⟩ (.func (.func 21) #[] #[])]) (by kernel_rfl) (okp (by kernel_rfl) (oka (RowsAt.all0 (hr _ (hs11.drop 5)) (by first | omega | (simp only [List.length_set]; omega) | (simp only [List.length_set, List.length_append, List.length_cons, List.length_nil]; omega)) (Nat.le_of_ble_eq_true (by kernel_rfl)) (by kernel_rfl)) (okp (by omega) (okp (ptrAdd _ _ _) (okc (hs11.cell 2 rfl (by kernel_rfl)) (okc (hs11.cell 1 rfl (by kernel_rfl)) ok0))))))), ?_⟩
      refine GoR.store rfl rfl (by kernel_rfl) (b := b9) (off := 0) (v := .agg (NameV.cells (nameOf (l.getD i dCall)))) (by kernel_rfl) (by kernel_rfl) (ti := Tryz.t73) (by kernel_rfl) hs11 0 rfl (by kernel_rfl) (by kernel_rfl) (Nat.le_of_ble_eq_true (by kernel_rfl)) (cs' := NameV.cells (nameOf (l.getD i dCall))) (L' := (Cel b9 (NameV.cells (nameOf (l.getD i dCall))) 73) :: (Cel bn #[.func (.func 21) #[] #[]] 67) :: (Cel bl #[vl ab1 ao2 l.length cl] 22) :: (Cel bm #[.map (some r)] 91) :: (MapA ekN evI r (metL nameOf l i)) :: L) (by kernel_rfl) rfl ?_
      intro w12 hs13
      refine ⟨Xo, ?_⟩
      refine GoR.done ?_
      refine GoQ.pick [3, 5, 6] (S' := [(3, vp bm 0), (5, .bool false), (6, vp b9 0)]) (by kernel_rfl) ?_
      exact GoQ.meet1 b9 rfl hs13
    refine GoR.alloc rfl rfl (by kernel_rfl) (z := .agg #[.int .i64 0, .int .u64 0]) (by kernel_rfl) hs4 (cs := #[.int .i64 0, .int .u64 0]) (by kernel_rfl) ?_
    intro b14 w15 hs16
    refine ⟨(opl (n := [.prop (Array.size (CallV.cells (l.getD i dCall)) = 13), .cells ⟨ab1, ao2 + (i * 13), none⟩ (CallV.cells (l.getD i dCall)), .prop (0 ≤ ((i : Nat) : Int) ∧ ((i : Nat) : Int) < ((l.length : Nat) : Int)), .prop (Value.pointer (some (Addr.add ⟨ab1, ao2, none⟩ (Int.toNat (i : Nat) * 13))) = Value.pointer (some ⟨ab1, ao2 + (i * 13), none⟩)), .cell ⟨bl, 0, none⟩ (vl ab1 ao2 l.length cl), .cell ⟨bn, 0, none⟩ (.func (.func 21) #[] #[])]) (by kernel_rfl) (okp (by kernel_rfl) (oka (RowsAt.all0 (hr _ (hs16.drop 5)) (by first | omega | (simp only [List.length_set]; omega) | (simp only [List.length_set, List.length_append, List.length_cons, List.length_nil]; omega)) (Nat.le_of_ble_eq_true (by kernel_rfl)) (by kernel_rfl)) (okp (by omega) (okp (ptrAdd _ _ _) (okc (hs16.cell 2 rfl (by kernel_rfl)) (okc (hs16.cell 1 rfl (by kernel_rfl)) ok0))))))), ?_⟩
    refine Xa (f := 21) (args := #[.agg (CallV.cells (l.getD i dCall))]) Tryz.call21 (nameOf_spec (l.getD i dCall)  hs16) ?_
    rintro v18 w19 ⟨rfl, hs17⟩
    refine ⟨Xo, ?_⟩
    refine GoR.store rfl rfl (by kernel_rfl) (b := b14) (off := 0) (v := .agg (NameV.cells (nameOf (l.getD i dCall)))) (by kernel_rfl) (by kernel_rfl) (ti := Tryz.t73) (by kernel_rfl) hs17 0 rfl (by kernel_rfl) (by kernel_rfl) (Nat.le_of_ble_eq_true (by kernel_rfl)) (cs' := NameV.cells (nameOf (l.getD i dCall))) (L' := (Cel b14 (NameV.cells (nameOf (l.getD i dCall))) 73) :: (Cel bn #[.func (.func 21) #[] #[]] 67) :: (Cel bl #[vl ab1 ao2 l.length cl] 22) :: (Cel bm #[.map (some r)] 91) :: (MapA ekN evI r (metL nameOf l i)) :: L) (by kernel_rfl) rfl ?_
    intro w20 hs21
    refine ⟨Xo, ?_⟩
    refine GoR.done ?_
    refine GoQ.pick [3, 5, 6] (S' := [(3, vp bm 0), (5, .bool false), (6, vp b14 0)]) (by kernel_rfl) ?_
    exact GoQ.meet1 b14 rfl hs21
  rintro b22 w23 hs24
  have hs25 : St w0 ((Cel b22 (NameV.cells (nameOf (l.getD i dCall))) 73) :: (Cel bn #[.func (.func 21) #[] #[]] 67) :: (Cel bl #[vl ab1 ao2 l.length cl] 22) :: (Cel bm #[.map (some r)] 91) :: (MapA ekN evI r (metL nameOf l i)) :: L) w23 := hs24
  refine GoQ.slots (S' := [(3, vp bm 0), (5, .bool false), (6, vp b22 0)]) rfl ?_
  refine GoQ.thn (GoC.seq ?_)
  refine Xt (.rd 0 (.rd 1 (.rd 2 (.rd 3 (.rd 4 .done))))) ?_
  refine Xk [(0, .gen [.map (some r)]), (1, .agg (NameV.cells (nameOf (l.getD i dCall))))] [(0, [.cell ⟨bm, 0, none⟩ (.map (some r))]), (1, [.prop (Array.size (NameV.cells (nameOf (l.getD i dCall))) = 2), .cells ⟨b22, 0, none⟩ (NameV.cells (nameOf (l.getD i dCall)))])] [(15, .agg (NameV.cells (nameOf (l.getD i dCall)))), (14, .map (some r)), (3, vp bm 0), (5, .bool false), (6, vp b22 0)] (ak (okc (hs25.cell 3 rfl (by kernel_rfl)) ok0) (ak (okp (by kernel_rfl) (oka (hs25.cells 0 0 rfl (by kernel_rfl)) ok0)) ak0)) ?_
  refine GoR.lookup rfl (by kernel_rfl) nmLaw (r := r) (k := (nameOf (l.getD i dCall))) (ok := false) (by kernel_rfl) hs25 4 rfl (z := evI (0 : Int)) (by kernel_rfl) (v := .int .i64 ((aget (metL nameOf l i) (nameOf (l.getD i dCall))).getD (0 : Int))) (lookV _ _ _) ?_
  refine Xk [(3, .gen []), (4, .gen [])] [] [(7, .bool (decide (((aget (metL nameOf l i) (nameOf (l.getD i dCall))).getD (0 : Int) : Int) > 0))), (3, vp bm 0), (5, .bool false), (6, vp b22 0)] ak0 ?_
  refine GoR.done (GoQ.thn (GoC.seq ?_))
  refine Xt (.rd 0 (.rd 1 (.ef 2 .done))) ?_
  refine Xk [(0, .gen [.map (some r)]), (1, .agg (NameV.cells (nameOf (l.getD i dCall))))] [(0, [.cell ⟨bm, 0, none⟩ (.map (some r))]), (1, [.prop (Array.size (NameV.cells (nameOf (l.getD i dCall))) = 2), .cells ⟨b22, 0, none⟩ (NameV.cells (nameOf (l.getD i dCall)))])] [(19, .agg (NameV.cells (nameOf (l.getD i dCall)))), (18, .map (some r)), (7, .bool (decide (((aget (metL nameOf l i) (nameOf (l.getD i dCall))).getD (0 : Int) : Int) > 0))), (5, .bool false)] (ak (okc (hs25.cell 3 rfl (by kernel_rfl)) ok0) (ak (okp (by kernel_rfl) (oka (hs25.cells 0 0 rfl (by kernel_rfl)) ok0)) ak0)) ?_
  refine GoR.mapUpdate rfl (by kernel_rfl) nmLaw (r := r) (k := nameOf (l.getD i dCall)) (v := 1) (by kernel_rfl) hs25 4 rfl ?_
  intro w26 hs27
  refine ⟨Xo, ?_⟩
  refine GoR.done (GoQ.thn (GoC.seq ?_))
  refine Xt (.rd 0 (.rd 1 .done)) ?_
  refine Xk [(0, .gen []), (1, .gen [])] [] [(5, .bool (decide (((aget (metL nameOf l i) (nameOf (l.getD i dCall))).getD (0 : Int) : Int) > 0)))] ak0 ?_
  refine GoR.done (GoQ.thn (GoC.ret ?_))
  refine X1 (v := .bool (decide (((aget (metL nameOf l i) (nameOf (l.getD i dCall))).getD (0 : Int) : Int) > 0))) ?_
  rw [← metL_succ (nm := nameOf) dCall hi] at hs27
  have hs28 : St w0 ((Cel b22 (NameV.cells (nameOf (l.getD i dCall))) 73) :: (Cel bn #[.func (.func 21) #[] #[]] 67) :: (Cel bl #[vl ab1 ao2 l.length cl] 22) :: (Cel bm #[.map (some r)] 91) :: (MapA ekN evI r (metL nameOf l (i + 1))) :: L) w26 := (((((hs27.pull 0 rfl).pull 4 rfl).pull 4 rfl).pull 4 rfl).pull 4 rfl)
  have hs29 : St w0 ((Cel bn #[.func (.func 21) #[] #[]] 67) :: (Cel bl #[vl ab1 ao2 l.length cl] 22) :: (Cel bm #[.map (some r)] 91) :: (MapA ekN evI r (metL nameOf l (i + 1))) :: L) w26 := hs28.drop 1
  exact ⟨rfl, hs29⟩
theorem twCFi_spec {w0 w : World} {L : List Asn} {bn : Nat} {bl : Nat} {bm : Nat} {r : Nat} {al : Option Addr} {cl : Nat} (l : List CallV) (hlen : l.length ≤ 1000000) (hr : ∀ w, St w0 L w → RowsAt w al l.length 13 (fun k => CallV.cells (l.getD k dCall))) (hs : St w0 ((Cel bn #[.func (.func 21) #[] #[]] 67) :: (Cel bl #[.slice al l.length cl] 22) :: (Cel bm #[.map (some r)] 91) :: (MapA ekN evI r ([])) :: L) w) : Calls Tryz.prog 40 #[.int .i64 (l.length : Nat), .func (.func 41) #[] #[vp bn 0, vp bl 0, vp bm 0]] w (Ret fun rv w' => rv = .tuple #[.int .i64 ((twO nameOf dCall l).getD 0 : Nat), .bool ((twO nameOf dCall l).isSome)] ∧ St w0 (L) w') := by
  refine enter (args := [.int .i64 (l.length : Nat), .func (.func 41) #[] #[vp bn 0, vp bl 0, vp bm 0]]) Tryz.func40 rfl Tryz.ntmps40 (Nat.le_of_ble_eq_true (by kernel_rfl)) ?_
  refine GoC.slots (S' := [(0, .int .i64 (l.length : Nat)), (1, .func (.func 41) #[] #[vp bn 0, vp bl 0, vp bm 0])]) rfl ?_
  refine GoC.seq ?_
  refine Xt (.rd 0 (.rd 1 .done)) ?_
  refine Xk [(0, .gen []), (1, .gen [])] [] [(5, .bool false), (4, .int .i64 0), (0, .int .i64 (l.length : Nat)), (1, .func (.func 41) #[] #[vp bn 0, vp bl 0, vp bm 0])] ak0 ?_
  refine GoR.done (GoQ.thn (GoC.seq (GoC.seq ?_)))
  refine Xt (.rd 0 (.rd 1 .done)) ?_
  refine Xk [(0, .gen []), (1, .gen [])] [] [(8, .int .i64 0), (7, .int .i64 (l.length : Nat)), (5, .bool false), (4, .int .i64 0), (1, .func (.func 41) #[] #[vp bn 0, vp bl 0, vp bm 0])] ak0 ?_
  refine GoR.done (GoQ.thn (GoC.block ?_))
  refine GoC.loop (T := Nat) (fun gg => [(1, .func (.func 41) #[] #[vp bn 0, vp bl 0, vp bm 0]), (7, .int .i64 (l.length : Nat)), (8, .int .i64 (gg : Nat))]) (fun gg w => (gg ≤ l.length ∧ ∀ i, i < gg → twP nameOf dCall l i = false) ∧ St w0 ((Cel bn #[.func (.func 21) #[] #[]] 67) :: (Cel bl #[.slice al l.length cl] 22) :: (Cel bm #[.map (some r)] 91) :: (MapA ekN evI r (metL nameOf l gg)) :: L) w) (fun gg => l.length - gg) 0 [1, 7, 8] (by kernel_rfl) ⟨⟨Nat.zero_le _, fun i hi => absurd hi (Nat.not_lt_zero _)⟩, hs⟩ ?_
  rintro k w1 ⟨hp0, hs2⟩
  have hp : k ≤ l.length ∧ ∀ i, i < k → twP nameOf dCall l i = false := hp0
  have hs3 : St w0 ((Cel bn #[.func (.func 21) #[] #[]] 67) :: (Cel bl #[.slice al l.length cl] 22) :: (Cel bm #[.map (some r)] 91) :: (MapA ekN evI r (metL nameOf l k)) :: L) w1 := hs2
  refine GoC.slots (S' := [(1, .func (.func 41) #[] #[vp bn 0, vp bl 0, vp bm 0]), (7, .int .i64 (l.length : Nat)), (8, .int .i64 (k : Nat))]) rfl ?_
  refine GoC.seq ?_
  refine Xt (.rd 0 .done) ?_
  refine Xk [(0, .gen [])] [] [(9, .bool (decide (((k : Nat) : Int) < (l.length : Nat)))), (1, .func (.func 41) #[] #[vp bn 0, vp bl 0, vp bm 0]), (7, .int .i64 (l.length : Nat)), (8, .int .i64 (k : Nat))] ak0 ?_
  refine GoR.done (GoQ.thn (GoC.seq ?_))
  refine Xc (t := decide (((k : Nat) : Int) < (l.length : Nat))) (fun h4 => ?_) (fun h4 => ?_)
  · have h4' : ((k : Nat) : Int) < (l.length : Nat) := of_decide_eq_true h4
    have hk : k < l.length := by omega
    refine GoC.skip (GoQ.thn (GoC.seq (GoC.block (GoC.seq ?_))))
    refine Xt (.rd 0 (.rd 1 .done)) ?_
    refine Xk [(0, .gen []), (1, .gen [])] [] [(6, .int .i64 (k : Nat)), (1, .func (.func 41) #[] #[vp bn 0, vp bl 0, vp bm 0]), (7, .int .i64 (l.length : Nat)), (8, .int .i64 (k : Nat))] ak0 ?_
    refine GoR.done (GoQ.thn (GoC.seq ?_))
    refine Xt (.rd 0 (.rd 1 (.ef 2 .done))) ?_
    refine Xk [(0, .gen []), (1, .gen [])] [] [(12, .int .i64 (k : Nat)), (11, .func (.func 41) #[] #[vp bn 0, vp bl 0, vp bm 0]), (6, .int .i64 (k : Nat)), (1, .func (.func 41) #[] #[vp bn 0, vp bl 0, vp bm 0]), (7, .int .i64 (l.length : Nat)), (8, .int .i64 (k : Nat))] ak0 ?_
    refine Xa (f := 41) (args := #[.int .i64 (k : Nat), vp bn 0, vp bl 0, vp bm 0]) Tryz.call41 (twC1_spec l k (by omega) hk (fun w h => hr _ (h.drop 0)) hs3) ?_
    rintro v6 w7 ⟨rfl, hs5⟩
    refine ⟨Xo, ?_⟩
    refine GoR.done (GoQ.thn ?_)
    refine Xc (t := twP nameOf dCall l k) (fun h8 => ?_) (fun h8 => ?_)
    · refine GoC.seq ?_
      refine Xt (.rd 0 (.rd 1 (.rd 2 .done))) ?_
      refine Xk [(0, .gen []), (1, .gen []), (2, .gen [])] [] [(5, .bool true), (4, .int .i64 (k : Nat)), (1, .func (.func 41) #[] #[vp bn 0, vp bl 0, vp bm 0]), (7, .int .i64 (l.length : Nat)), (8, .int .i64 (k : Nat))] ak0 ?_
      refine GoR.done (GoQ.thn (GoC.ret (GoQ.blkR (GoQ.skipCR (GoQ.skipLR (GoQ.blkR (GoQ.skipCR ?_)))))))
      refine X2 (v := .int .i64 (k : Nat)) (v' := .bool true) ?_
      have hs9 : St w0 (L) w7 := hs5.drop 4
      exact ⟨(by rw [show twO nameOf dCall l = some k from firstO_some hk h8 hp.2]; rfl), hs9⟩
    · refine GoC.skip (GoQ.blkN (GoQ.thn ?_))
      refine Xt (.rd 0 (.rd 1 .done)) ?_
      refine Xk [(0, .as_ (.int .i64 ((k : Nat) + 1)) (.gen [])), (1, .gen [])] [(0, [.prop (Value.int .i64 (IntKind.i64.wrap ((k : Nat) + 1)) = Value.int .i64 ((k : Nat) + 1))])] [(8, .int .i64 ((k : Nat) + 1)), (1, .func (.func 41) #[] #[vp bn 0, vp bl 0, vp bm 0]), (7, .int .i64 (l.length : Nat))] (ak (okp (i64ok (by omega) (by omega)) ok0) ak0) ?_
      refine GoR.done ?_
      exact GoQ.back (k + 1) [1, 7, 8] (by kernel_rfl) (by show l.length - (k + 1) < l.length - k; omega) ⟨⟨by omega, none_step (p := twP nameOf dCall l) hp.2 h8⟩, hs5⟩
  · have h4' : ¬ (((k : Nat) : Int) < (l.length : Nat)) := of_decide_eq_false h4
    refine GoC.exit (GoQ.skipC (GoQ.skipL (GoQ.hit (GoQ.thn (GoC.seq ?_)))))
    refine Xt (.rd 0 (.rd 1 .done)) ?_
    refine Xk [(0, .gen []), (1, .gen [])] [] [(5, .bool false), (4, .int .i64 0)] ak0 ?_
    refine GoR.done (GoQ.thn (GoC.ret ?_))
    refine X2 (v := .int .i64 0) (v' := .bool false) ?_
    have hs10 : St w0 (L) w1 := hs3.drop 4
    exact ⟨(by rw [show twO nameOf dCall l = none from firstO_none (fun i hi => hp.2 i (by omega))]; rfl), hs10⟩
theorem twC_spec {w0 w : World} {L : List Asn} {al : Option Addr} {cl : Nat} (l : List CallV) (hlen : l.length ≤ 1000000) (hr : ∀ w, St w0 L w → RowsAt w al l.length 13 (fun k => CallV.cells (l.getD k dCall))) (hs : St w0 (L) w) : Calls Tryz.prog 20 #[.slice al l.length cl, .func (.func 21) #[] #[]] w (Ret fun rv w' => rv = .tuple #[.int .i64 ((twO nameOf dCall l).getD 0 : Nat), .bool ((twO nameOf dCall l).isSome)] ∧ St w0 (L) w') := by
  refine enter (args := [.slice al l.length cl, .func (.func 21) #[] #[]]) Tryz.func20 rfl Tryz.ntmps20 (Nat.le_of_ble_eq_true (by kernel_rfl)) ?_
  refine GoC.slots (S' := [(0, .slice al l.length cl), (1, .func (.func 21) #[] #[])]) rfl ?_
  refine GoC.seq ?_
  refine Xt (.ef 0 (.ef 1 (.rd 2 (.rd 3 .done)))) ?_
  refine GoR.box rfl rfl (by kernel_rfl) (v := .slice al l.length cl) (by kernel_rfl) hs (cs := #[.slice al l.length cl]) (by kernel_rfl) ?_
  intro b1 w2 hs3
  refine ⟨Xo, ?_⟩
  refine GoR.box rfl rfl (by kernel_rfl) (v := .func (.func 21) #[] #[]) (by kernel_rfl) hs3 (cs := #[.func (.func 21) #[] #[]]) (by kernel_rfl) ?_
  intro b4 w5 hs6
  refine ⟨Xo, ?_⟩
  refine Xk [(2, .gen []), (3, .gen [])] [] [(5, .bool false), (4, .int .i64 0), (3, vp b4 0), (2, vp b1 0)] ak0 ?_
  refine GoR.done (GoQ.thn (GoC.seq ?_))
  refine Xt (.ef 0 (.ef 1 (.ef 2 .done))) ?_
  refine GoR.makeMap (α := NameV) (β := Int) rfl rfl (by kernel_rfl) ekN evI hs6 ?_
  intro r7 w8 hs9
  refine ⟨Xo, ?_⟩
  refine GoR.alloc rfl rfl (by kernel_rfl) (z := .map none) (by kernel_rfl) hs9 (cs := #[.map none]) (by kernel_rfl) ?_
  intro b10 w11 hs12
  refine ⟨Xo, ?_⟩
  refine GoR.store rfl rfl (by kernel_rfl) (b := b10) (off := 0) (v := .map (some r7)) (by kernel_rfl) (by kernel_rfl) (ti := Tryz.t91) (by kernel_rfl) hs12 0 rfl (by kernel_rfl) (by kernel_rfl) (Nat.le_of_ble_eq_true (by kernel_rfl)) (cs' := #[.map (some r7)]) (L' := (Cel b10 #[.map (some r7)] 91) :: (MapA ekN evI r7 ([])) :: (Cel b4 #[.func (.func 21) #[] #[]] 67) :: (Cel b1 #[.slice al l.length cl] 22) :: L) (by kernel_rfl) rfl ?_
  intro w13 hs14
  refine ⟨Xo, ?_⟩
  refine GoR.done (GoQ.thn (GoC.seq ?_))
  refine Xt (.rd 0 (.rd 1 (.rd 2 (.ef 3 (.rd 4 (.rd 5 (.rd 6 (.rd 7 .done)))))))) ?_
  refine Xk [(0, .gen [.slice al l.length cl]), (1, .gen []), (2, .gen [])] [(0, [.cell ⟨b1, 0, none⟩ (.slice al l.length cl)])] [(10, .func (.func 41) #[] #[vp b4 0, vp b1 0, vp b10 0]), (9, .int .i64 (l.length : Nat)), (5, .bool false), (4, .int .i64 0)] (ak (okc (hs14.cell 3 rfl (by kernel_rfl)) ok0) ak0) ?_
  have hs15 : St w0 ((Cel b4 #[.func (.func 21) #[] #[]] 67) :: (Cel b1 #[.slice al l.length cl] 22) :: (Cel b10 #[.map (some r7)] 91) :: (MapA ekN evI r7 ([])) :: L) w13 := ((((hs14.pull 1 rfl).pull 1 rfl).pull 3 rfl).pull 3 rfl)
  refine Xa (f := 40) (args := #[.int .i64 (l.length : Nat), .func (.func 41) #[] #[vp b4 0, vp b1 0, vp b10 0]]) Tryz.call40 (twCFi_spec l (by omega) (fun w h => hr _ (h.drop 0)) hs15) ?_
  rintro v17 w18 ⟨rfl, hs16⟩
  refine ⟨Xo, ?_⟩
  refine Xk [(4, .gen []), (5, .gen []), (6, .gen []), (7, .gen [])] [] [(5, .bool ((twO nameOf dCall l).isSome)), (4, .int .i64 ((twO nameOf dCall l).getD 0 : Nat))] ak0 ?_
  refine GoR.done (GoQ.thn (GoC.ret ?_))
  refine X2 (v := .int .i64 ((twO nameOf dCall l).getD 0 : Nat)) (v' := .bool ((twO nameOf dCall l).isSome)) ?_
  exact ⟨rfl, hs16⟩
theorem twQ1_spec {w0 w : World} {L : List Asn} {bn : Nat} {bl : Nat} {bm : Nat} {r : Nat} {ar : Option Addr} {cr : Nat} (row : List ReqV) (i : Nat) (hlen : row.length ≤ 1000000) (hi : i < row.length) (hr : ∀ w, St w0 L w → RowsAt w ar row.length 40 (fun k => ReqV.cells (row.getD k dReq))) (hs : St w0 ((Cel bn #[.func (.func 26) #[] #[]] 74) :: (Cel bl #[.slice ar row.length cr] 23) :: (Cel bm #[.map (some r)] 91) :: (MapA ekN evI r (metL nameQ row i)) :: L) w) : Calls Tryz.prog 50 #[.int .i64 (i : Nat), vp bn 0, vp bl 0, vp bm 0] w (Ret fun rv w' => rv = .bool (twP nameQ dReq row i) ∧ St w0 ((Cel bn #[.func (.func 26) #[] #[]] 74) :: (Cel bl #[.slice ar row.length cr] 23) :: (Cel bm #[.map (some r)] 91) :: (MapA ekN evI r (metL nameQ row (i + 1))) :: L) w') := by
  refine enter (args := [.int .i64 (i : Nat), vp bn 0, vp bl 0, vp bm 0]) Tryz.func50 rfl Tryz.ntmps50 (Nat.le_of_ble_eq_true (by kernel_rfl)) ?_
  refine GoC.slots (S' := [(0, .int .i64 (i : Nat)), (1, vp bn 0), (2, vp bl 0), (3, vp bm 0)]) rfl ?_
  refine GoC.seq ?_
  refine Xt (.rd 0 .done) ?_
  refine Xk [(0, .gen [])] [] [(5, .bool false), (0, .int .i64 (i : Nat)), (1, vp bn 0), (2, vp bl 0), (3, vp bm 0)] ak0 ?_
  refine GoR.done (GoQ.thn (GoC.seq ?_))
  obtain ⟨ab1, ao2, rfl⟩ := RowsAt.isSome (hr _ (hs.drop 4)) (by omega)
  refine GoC.join (T := Nat) (E := fun jx => [(3, vp bm 0), (5, .bool false), (6, vp jx 0)]) (F := fun jx w => St w0 ((Cel jx (NameV.cells (nameQ (row.getD i dReq))) 73) :: (Cel bn #[.func (.func 26) #[] #[]] 74) :: (Cel bl #[vl ab1 ao2 row.length cr] 23) :: (Cel bm #[.map (some r)] 91) :: (MapA ekN evI r (metL nameQ row i)) :: L) w) ?_ ?_
  · refine GoC.regD [0, 0, 0, 6, 14, 31, 0, 127] (.rd 0 (.rd 1 (.rd 2 (.rd 3 (.rd 4 (.alt (.ef 5 (.ef 6 (.ef 7 .done))) (.ef 6 (.ef 5 (.ef 7 .done))))))))) (by kernel_rfl) (by kernel_rfl) noPan_body (by kernel_rfl) hs ?_
    intro w3 hs4 hw5
    refine Xk [(0, .gen [.func (.func 26) #[] #[]]), (1, .gen [vl ab1 ao2 row.length cr]), (2, .gen []), (3, .as_ (vp ab1 (ao2 + (i * 40))) .at_), (4, .agg (ReqV.cells (row.getD i dReq)))] [(0, [.cell ⟨bn, 0, none⟩ (.func (.func 26) #[] #[])]), (1, [.cell ⟨bl, 0, none⟩ (vl ab1 ao2 row.length cr)]), (3, [.prop (0 ≤ ((i : Nat) : Int) ∧ ((i : Nat) : Int) < ((row.length : Nat) : Int)), .prop (Value.pointer (some (Addr.add ⟨ab1, ao2, none⟩ (Int.toNat (i : Nat) * 40))) = Value.pointer (some ⟨ab1, ao2 + (i * 40), none⟩))]), (4, [.prop (Array.size (ReqV.cells (row.getD i dReq)) = 40), .cells ⟨ab1, ao2 + (i * 40), none⟩ (ReqV.cells (row.getD i dReq))])] [(12, .agg (ReqV.cells (row.getD i dReq))), (8, .func (.func 26) #[] #[]), (5, .bool false), (3, vp bm 0)] (ak (okc (hs4.cell 0 rfl (by kernel_rfl)) ok0) (ak (okc (hs4.cell 1 rfl (by kernel_rfl)) ok0) (ak (okp (by omega) (okp (ptrAdd _ _ _) ok0)) (ak (okp (by kernel_rfl) (oka (RowsAt.all0 (hr _ (hs4.drop 4)) (by first | omega | (simp only [List.length_set]; omega) | (simp only [List.length_set, List.length_append, List.length_cons, List.length_nil]; omega)) (Nat.le_of_ble_eq_true (by kernel_rfl)) (by kernel_rfl)) ok0)) ak0)))) ?_
    refine GoR.alt ?_ ?_
    · refine Xa (f := 26) (args := #[.agg (ReqV.cells (row.getD i dReq))]) Tryz.call26 (nameQ_spec (row.getD i dReq)  hs4) ?_
      rintro v7 w8 ⟨rfl, hs6⟩
      refine ⟨Xo, ?_⟩
      refine GoR.alloc rfl rfl (by kernel_rfl) (z := .agg #[.int .i64 0, .int .u64 0]) (by kernel_rfl) hs6 (cs := #[.int .i64 0, .int .u64 0]) (by kernel_rfl) ?_
      intro b9 w10 hs11
      refine ⟨(opl (n := [.prop (Array.size (ReqV.cells (row.getD i dReq)) = 40), .cells ⟨ab1, ao2 + (i * 40), none⟩ (ReqV.cells (row.getD i dReq)), .prop (0 ≤ ((i : Nat) : Int) ∧ ((i : Nat) : Int) < ((row.length : Nat) : Int)), .prop (Value.pointer (some (Addr.add ⟨ab1, ao2, none⟩ (Int.toNat (i : Nat) * 40))) = Value.pointer (some ⟨ab1, ao2 + (i * 40), none⟩)), .cell ⟨bl, 0, none⟩ (vl ab1 ao2 row.length cr), .cell ⟨bn, 0, none⟩ (.func (.func 26) #[] #[])]) (by kernel_rfl) (okp (by kernel_rfl) (oka (RowsAt.all0 (hr _ (hs11.drop 5)) (by first | omega | (simp only [List.length_set]; omega) | (simp only [List.length_set, List.length_append, List.length_cons, List.length_nil]; omega)) (Nat.le_of_ble_eq_true (by kernel_rfl)) (by kernel_rfl)) (okp (by omega) (okp (ptrAdd _ _ _) (okc (hs11.cell 2 rfl (by kernel_rfl)) (okc (hs11.cell 1 rfl (by kernel_rfl)) ok0))))))), ?_⟩
      refine GoR.store rfl rfl (by kernel_rfl) (b := b9) (off := 0) (v := .agg (NameV.cells (nameQ (row.getD i dReq)))) (by kernel_rfl) (by kernel_rfl) (ti := Tryz.t73) (by kernel_rfl) hs11 0 rfl (by kernel_rfl) (by kernel_rfl) (Nat.le_of_ble_eq_true (by kernel_rfl)) (cs' := NameV.cells (nameQ (row.getD i dReq))) (L' := (Cel b9 (NameV.cells (nameQ (row.getD i dReq))) 73) :: (Cel bn #[.func (.func 26) #[] #[]] 74) :: (Cel bl #[vl ab1 ao2 row.length cr] 23) :: (Cel bm #[.map (some r)] 91) :: (MapA ekN evI r (metL nameQ row i)) :: L) (by kernel_rfl) rfl ?_
      intro w12 hs13
      refine ⟨Xo, ?_⟩
      refine GoR.done ?_
      refine GoQ.pick [3, 5, 6] (S' := [(3, vp bm 0), (5, .bool false), (6, vp b9 0)]) (by kernel_rfl) ?_
      exact GoQ.meet1 b9 rfl hs13
    refine GoR.alloc rfl rfl (by kernel_rfl) (z := .agg #[.int .i64 0, .int .u64 0]) (by kernel_rfl) hs4 (cs := #[.int .i64 0, .int .u64 0]) (by kernel_rfl) ?_
    intro b14 w15 hs16
    refine ⟨(opl (n := [.prop (Array.size (ReqV.cells (row.getD i dReq)) = 40), .cells ⟨ab1, ao2 + (i * 40), none⟩ (ReqV.cells (row.getD i dReq)), .prop (0 ≤ ((i : Nat) : Int) ∧ ((i : Nat) : Int) < ((row.length : Nat) : Int)), .prop (Value.pointer (some (Addr.add ⟨ab1, ao2, none⟩ (Int.toNat (i : Nat) * 40))) = Value.pointer (some ⟨ab1, ao2 + (i * 40), none⟩)), .cell ⟨bl, 0, none⟩ (vl ab1 ao2 row.length cr), .cell ⟨bn, 0, none⟩ (.func (.func 26) #[] #[])]) (by kernel_rfl) (okp (by kernel_rfl) (oka (RowsAt.all0 (hr _ (hs16.drop 5)) (by first | omega | (simp only [List.length_set]; omega) | (simp only [List.length_set, List.length_append, List.length_cons, List.length_nil]; omega)) (Nat.le_of_ble_eq_true (by kernel_rfl)) (by kernel_rfl)) (okp (by omega) (okp (ptrAdd _ _ _) (okc (hs16.cell 2 rfl (by kernel_rfl)) (okc (hs16.cell 1 rfl (by kernel_rfl)) ok0))))))), ?_⟩
    refine Xa (f := 26) (args := #[.agg (ReqV.cells (row.getD i dReq))]) Tryz.call26 (nameQ_spec (row.getD i dReq)  hs16) ?_
    rintro v18 w19 ⟨rfl, hs17⟩
    refine ⟨Xo, ?_⟩
    refine GoR.store rfl rfl (by kernel_rfl) (b := b14) (off := 0) (v := .agg (NameV.cells (nameQ (row.getD i dReq)))) (by kernel_rfl) (by kernel_rfl) (ti := Tryz.t73) (by kernel_rfl) hs17 0 rfl (by kernel_rfl) (by kernel_rfl) (Nat.le_of_ble_eq_true (by kernel_rfl)) (cs' := NameV.cells (nameQ (row.getD i dReq))) (L' := (Cel b14 (NameV.cells (nameQ (row.getD i dReq))) 73) :: (Cel bn #[.func (.func 26) #[] #[]] 74) :: (Cel bl #[vl ab1 ao2 row.length cr] 23) :: (Cel bm #[.map (some r)] 91) :: (MapA ekN evI r (metL nameQ row i)) :: L) (by kernel_rfl) rfl ?_
    intro w20 hs21
    refine ⟨Xo, ?_⟩
    refine GoR.done ?_
    refine GoQ.pick [3, 5, 6] (S' := [(3, vp bm 0), (5, .bool false), (6, vp b14 0)]) (by kernel_rfl) ?_
    exact GoQ.meet1 b14 rfl hs21
  rintro b22 w23 hs24
  have hs25 : St w0 ((Cel b22 (NameV.cells (nameQ (row.getD i dReq))) 73) :: (Cel bn #[.func (.func 26) #[] #[]] 74) :: (Cel bl #[vl ab1 ao2 row.length cr] 23) :: (Cel bm #[.map (some r)] 91) :: (MapA ekN evI r (metL nameQ row i)) :: L) w23 := hs24
  refine GoQ.slots (S' := [(3, vp bm 0), (5, .bool false), (6, vp b22 0)]) rfl ?_
  refine GoQ.thn (GoC.seq ?_)
  refine Xt (.rd 0 (.rd 1 (.rd 2 (.rd 3 (.rd 4 .done))))) ?_
  refine Xk [(0, .gen [.map (some r)]), (1, .agg (NameV.cells (nameQ (row.getD i dReq))))] [(0, [.cell ⟨bm, 0, none⟩ (.map (some r))]), (1, [.prop (Array.size (NameV.cells (nameQ (row.getD i dReq))) = 2), .cells ⟨b22, 0, none⟩ (NameV.cells (nameQ (row.getD i dReq)))])] [(15, .agg (NameV.cells (nameQ (row.getD i dReq)))), (14, .map (some r)), (3, vp bm 0), (5, .bool false), (6, vp b22 0)] (ak (okc (hs25.cell 3 rfl (by kernel_rfl)) ok0) (ak (okp (by kernel_rfl) (oka (hs25.cells 0 0 rfl (by kernel_rfl)) ok0)) ak0)) ?_
  refine GoR.lookup rfl (by kernel_rfl) nmLaw (r := r) (k := (nameQ (row.getD i dReq))) (ok := false) (by kernel_rfl) hs25 4 rfl (z := evI (0 : Int)) (by kernel_rfl) (v := .int .i64 ((aget (metL nameQ row i) (nameQ (row.getD i dReq))).getD (0 : Int))) (lookV _ _ _) ?_
  refine Xk [(3, .gen []), (4, .gen [])] [] [(7, .bool (decide (((aget (metL nameQ row i) (nameQ (row.getD i dReq))).getD (0 : Int) : Int) > 0))), (3, vp bm 0), (5, .bool false), (6, vp b22 0)] ak0 ?_
  refine GoR.done (GoQ.thn (GoC.seq ?_))
  refine Xt (.rd 0 (.rd 1 (.ef 2 .done))) ?_
  refine Xk [(0, .gen [.map (some r)]), (1, .agg (NameV.cells (nameQ (row.getD i dReq))))] [(0, [.cell ⟨bm, 0, none⟩ (.map (some r))]), (1, [.prop (Array.size (NameV.cells (nameQ (row.getD i dReq))) = 2), .cells ⟨b22, 0, none⟩ (NameV.cells (nameQ (row.getD i dReq)))])] [(19, .agg (NameV.cells (nameQ (row.getD i dReq)))), (18, .map (some r)), (7, .bool (decide (((aget (metL nameQ row i) (nameQ (row.getD i dReq))).getD (0 : Int) : Int) > 0))), (5, .bool false)] (ak (okc (hs25.cell 3 rfl (by kernel_rfl)) ok0) (ak (okp (by kernel_rfl) (oka (hs25.cells 0 0 rfl (by kernel_rfl)) ok0)) ak0)) ?_
  refine GoR.mapUpdate rfl (by kernel_rfl) nmLaw (r := r) (k := nameQ (row.getD i dReq)) (v := 1) (by kernel_rfl) hs25 4 rfl ?_
  intro w26 hs27
  refine ⟨Xo, ?_⟩
  refine GoR.done (GoQ.thn (GoC.seq ?_))
  refine Xt (.rd 0 (.rd 1 .done)) ?_
  refine Xk [(0, .gen []), (1, .gen [])] [] [(5, .bool (decide (((aget (metL nameQ row i) (nameQ (row.getD i dReq))).getD (0 : Int) : Int) > 0)))] ak0 ?_
  refine GoR.done (GoQ.thn (GoC.ret ?_))
  refine X1 (v := .bool (decide (((aget (metL nameQ row i) (nameQ (row.getD i dReq))).getD (0 : Int) : Int) > 0))) ?_
  rw [← metL_succ (nm := nameQ) dReq hi] at hs27
  have hs28 : St w0 ((Cel b22 (NameV.cells (nameQ (row.getD i dReq))) 73) :: (Cel bn #[.func (.func 26) #[] #[]] 74) :: (Cel bl #[vl ab1 ao2 row.length cr] 23) :: (Cel bm #[.map (some r)] 91) :: (MapA ekN evI r (metL nameQ row (i + 1))) :: L) w26 := (((((hs27.pull 0 rfl).pull 4 rfl).pull 4 rfl).pull 4 rfl).pull 4 rfl)
  have hs29 : St w0 ((Cel bn #[.func (.func 26) #[] #[]] 74) :: (Cel bl #[vl ab1 ao2 row.length cr] 23) :: (Cel bm #[.map (some r)] 91) :: (MapA ekN evI r (metL nameQ row (i + 1))) :: L) w26 := hs28.drop 1
  exact ⟨rfl, hs29⟩
theorem twQFi_spec {w0 w : World} {L : List Asn} {bn : Nat} {bl : Nat} {bm : Nat} {r : Nat} {ar : Option Addr} {cr : Nat} (row : List ReqV) (hlen : row.length ≤ 1000000) (hr : ∀ w, St w0 L w → RowsAt w ar row.length 40 (fun k => ReqV.cells (row.getD k dReq))) (hs : St w0 ((Cel bn #[.func (.func 26) #[] #[]] 74) :: (Cel bl #[.slice ar row.length cr] 23) :: (Cel bm #[.map (some r)] 91) :: (MapA ekN evI r ([])) :: L) w) : Calls Tryz.prog 40 #[.int .i64 (row.length : Nat), .func (.func 50) #[] #[vp bn 0, vp bl 0, vp bm 0]] w (Ret fun rv w' => rv = .tuple #[.int .i64 ((twO nameQ dReq row).getD 0 : Nat), .bool ((twO nameQ dReq row).isSome)] ∧ St w0 (L) w') := by
  refine enter (args := [.int .i64 (row.length : Nat), .func (.func 50) #[] #[vp bn 0, vp bl 0, vp bm 0]]) Tryz.func40 rfl Tryz.ntmps40 (Nat.le_of_ble_eq_true (by kernel_rfl)) ?_
  refine GoC.slots (S' := [(0, .int .i64 (row.length : Nat)), (1, .func (.func 50) #[] #[vp bn 0, vp bl 0, vp bm 0])]) rfl ?_
  refine GoC.seq ?_
  refine Xt (.rd 0 (.rd 1 .done)) ?_
  refine Xk [(0, .gen []), (1, .gen [])] [] [(5, .bool false), (4, .int .i64 0), (0, .int .i64 (row.length : Nat)), (1, .func (.func 50) #[] #[vp bn 0, vp bl 0, vp bm 0])] ak0 ?_
  refine GoR.done (GoQ.thn (GoC.seq (GoC.seq ?_)))
  refine Xt (.rd 0 (.rd 1 .done)) ?_
  refine Xk [(0, .gen []), (1, .gen [])] [] [(8, .int .i64 0), (7, .int .i64 (row.length : Nat)), (5, .bool false), (4, .int .i64 0), (1, .func (.func 50) #[] #[vp bn 0, vp bl 0, vp bm 0])] ak0 ?_
  refine GoR.done (GoQ.thn (GoC.block ?_))
  refine GoC.loop (T := Nat) (fun gg => [(1, .func (.func 50) #[] #[vp bn 0, vp bl 0, vp bm 0]), (7, .int .i64 (row.length : Nat)), (8, .int .i64 (gg : Nat))]) (fun gg w => (gg ≤ row.length ∧ ∀ i, i < gg → twP nameQ dReq row i = false) ∧ St w0 ((Cel bn #[.func (.func 26) #[] #[]] 74) :: (Cel bl #[.slice ar row.length cr] 23) :: (Cel bm #[.map (some r)] 91) :: (MapA ekN evI r (metL nameQ row gg)) :: L) w) (fun gg => row.length - gg) 0 [1, 7, 8] (by kernel_rfl) ⟨⟨Nat.zero_le _, fun i hi => absurd hi (Nat.not_lt_zero _)⟩, hs⟩ ?_
  rintro k w1 ⟨hp0, hs2⟩
  have hp : k ≤ row.length ∧ ∀ i, i < k → twP nameQ dReq row i = false := hp0
  have hs3 : St w0 ((Cel bn #[.func (.func 26) #[] #[]] 74) :: (Cel bl #[.slice ar row.length cr] 23) :: (Cel bm #[.map (some r)] 91) :: (MapA ekN evI r (metL nameQ row k)) :: L) w1 := hs2
  refine GoC.slots (S' := [(1, .func (.func 50) #[] #[vp bn 0, vp bl 0, vp bm 0]), (7, .int .i64 (row.length : Nat)), (8, .int .i64 (k : Nat))]) rfl ?_
  refine GoC.seq ?_
  refine Xt (.rd 0 .done) ?_
  refine Xk [(0, .gen [])] [] [(9, .bool (decide (((k : Nat) : Int) < (row.length : Nat)))), (1, .func (.func 50) #[] #[vp bn 0, vp bl 0, vp bm 0]), (7, .int .i64 (row.length : Nat)), (8, .int .i64 (k : Nat))] ak0 ?_
  refine GoR.done (GoQ.thn (GoC.seq ?_))
  refine Xc (t := decide (((k : Nat) : Int) < (row.length : Nat))) (fun h4 => ?_) (fun h4 => ?_)
  · have h4' : ((k : Nat) : Int) < (row.length : Nat) := of_decide_eq_true h4
    have hk : k < row.length := by omega
    refine GoC.skip (GoQ.thn (GoC.seq (GoC.block (GoC.seq ?_))))
    refine Xt (.rd 0 (.rd 1 .done)) ?_
    refine Xk [(0, .gen []), (1, .gen [])] [] [(6, .int .i64 (k : Nat)), (1, .func (.func 50) #[] #[vp bn 0, vp bl 0, vp bm 0]), (7, .int .i64 (row.length : Nat)), (8, .int .i64 (k : Nat))] ak0 ?_
    refine GoR.done (GoQ.thn (GoC.seq ?_))
    refine Xt (.rd 0 (.rd 1 (.ef 2 .done))) ?_
    refine Xk [(0, .gen []), (1, .gen [])] [] [(12, .int .i64 (k : Nat)), (11, .func (.func 50) #[] #[vp bn 0, vp bl 0, vp bm 0]), (6, .int .i64 (k : Nat)), (1, .func (.func 50) #[] #[vp bn 0, vp bl 0, vp bm 0]), (7, .int .i64 (row.length : Nat)), (8, .int .i64 (k : Nat))] ak0 ?_
    refine Xa (f := 50) (args := #[.int .i64 (k : Nat), vp bn 0, vp bl 0, vp bm 0]) Tryz.call50 (twQ1_spec row k (by omega) (by first | assumption | omega) (fun w h => hr _ (h.drop 0)) hs3) ?_
    rintro v6 w7 ⟨rfl, hs5⟩
    refine ⟨Xo, ?_⟩
    refine GoR.done (GoQ.thn ?_)
    refine Xc (t := twP nameQ dReq row k) (fun h8 => ?_) (fun h8 => ?_)
    · refine GoC.seq ?_
      refine Xt (.rd 0 (.rd 1 (.rd 2 .done))) ?_
      refine Xk [(0, .gen []), (1, .gen []), (2, .gen [])] [] [(5, .bool true), (4, .int .i64 (k : Nat)), (1, .func (.func 50) #[] #[vp bn 0, vp bl 0, vp bm 0]), (7, .int .i64 (row.length : Nat)), (8, .int .i64 (k : Nat))] ak0 ?_
      refine GoR.done (GoQ.thn (GoC.ret (GoQ.blkR (GoQ.skipCR (GoQ.skipLR (GoQ.blkR (GoQ.skipCR ?_)))))))
      refine X2 (v := .int .i64 (k : Nat)) (v' := .bool true) ?_
      have hs9 : St w0 (L) w7 := hs5.drop 4
      exact ⟨(by rw [show twO nameQ dReq row = some k from firstO_some hk h8 hp.2]; rfl), hs9⟩
    · refine GoC.skip (GoQ.blkN (GoQ.thn ?_))
      refine Xt (.rd 0 (.rd 1 .done)) ?_
      refine Xk [(0, .as_ (.int .i64 ((k : Nat) + 1)) (.gen [])), (1, .gen [])] [(0, [.prop (Value.int .i64 (IntKind.i64.wrap ((k : Nat) + 1)) = Value.int .i64 ((k : Nat) + 1))])] [(8, .int .i64 ((k : Nat) + 1)), (1, .func (.func 50) #[] #[vp bn 0, vp bl 0, vp bm 0]), (7, .int .i64 (row.length : Nat))] (ak (okp (i64ok (by omega) (by omega)) ok0) ak0) ?_
      refine GoR.done ?_
      exact GoQ.back (k + 1) [1, 7, 8] (by kernel_rfl) (by show row.length - (k + 1) < row.length - k; omega) ⟨⟨by omega, none_step (p := twP nameQ dReq row) hp.2 h8⟩, hs5⟩
  · have h4' : ¬ (((k : Nat) : Int) < (row.length : Nat)) := of_decide_eq_false h4
    refine GoC.exit (GoQ.skipC (GoQ.skipL (GoQ.hit (GoQ.thn (GoC.seq ?_)))))
    refine Xt (.rd 0 (.rd 1 .done)) ?_
    refine Xk [(0, .gen []), (1, .gen [])] [] [(5, .bool false), (4, .int .i64 0)] ak0 ?_
    refine GoR.done (GoQ.thn (GoC.ret ?_))
    refine X2 (v := .int .i64 0) (v' := .bool false) ?_
    have hs10 : St w0 (L) w1 := hs3.drop 4
    exact ⟨(by rw [show twO nameQ dReq row = none from firstO_none (fun i hi => hp.2 i (by omega))]; rfl), hs10⟩
theorem twQ_spec {w0 w : World} {L : List Asn} {ar : Option Addr} {cr : Nat} (row : List ReqV) (hlen : row.length ≤ 1000000) (hr : ∀ w, St w0 L w → RowsAt w ar row.length 40 (fun k => ReqV.cells (row.getD k dReq))) (hs : St w0 (L) w) : Calls Tryz.prog 25 #[.slice ar row.length cr, .func (.func 26) #[] #[]] w (Ret fun rv w' => rv = .tuple #[.int .i64 ((twO nameQ dReq row).getD 0 : Nat), .bool ((twO nameQ dReq row).isSome)] ∧ St w0 (L) w') := by
  refine enter (args := [.slice ar row.length cr, .func (.func 26) #[] #[]]) Tryz.func25 rfl Tryz.ntmps25 (Nat.le_of_ble_eq_true (by kernel_rfl)) ?_
  refine GoC.slots (S' := [(0, .slice ar row.length cr), (1, .func (.func 26) #[] #[])]) rfl ?_
  refine GoC.seq ?_
  refine Xt (.ef 0 (.ef 1 (.rd 2 (.rd 3 .done)))) ?_
  refine GoR.box rfl rfl (by kernel_rfl) (v := .slice ar row.length cr) (by kernel_rfl) hs (cs := #[.slice ar row.length cr]) (by kernel_rfl) ?_
  intro b1 w2 hs3
  refine ⟨Xo, ?_⟩
  refine GoR.box rfl rfl (by kernel_rfl) (v := .func (.func 26) #[] #[]) (by kernel_rfl) hs3 (cs := #[.func (.func 26) #[] #[]]) (by kernel_rfl) ?_
  intro b4 w5 hs6
  refine ⟨Xo, ?_⟩
  refine Xk [(2, .gen []), (3, .gen [])] [] [(5, .bool false), (4, .int .i64 0), (3, vp b4 0), (2, vp b1 0)] ak0 ?_
  refine GoR.done (GoQ.thn (GoC.seq ?_))
  refine Xt (.ef 0 (.ef 1 (.ef 2 .done))) ?_
  refine GoR.makeMap (α := NameV) (β := Int) rfl rfl (by kernel_rfl) ekN evI hs6 ?_
  intro r7 w8 hs9
  refine ⟨Xo, ?_⟩
  refine GoR.alloc rfl rfl (by kernel_rfl) (z := .map none) (by kernel_rfl) hs9 (cs := #[.map none]) (by kernel_rfl) ?_
  intro b10 w11 hs12
  refine ⟨Xo, ?_⟩
  refine GoR.store rfl rfl (by kernel_rfl) (b := b10) (off := 0) (v := .map (some r7)) (by kernel_rfl) (by kernel_rfl) (ti := Tryz.t91) (by kernel_rfl) hs12 0 rfl (by kernel_rfl) (by kernel_rfl) (Nat.le_of_ble_eq_true (by kernel_rfl)) (cs' := #[.map (some r7)]) (L' := (Cel b10 #[.map (some r7)] 91) :: (MapA ekN evI r7 ([])) :: (Cel b4 #[.func (.func 26) #[] #[]] 74) :: (Cel b1 #[.slice ar row.length cr] 23) :: L) (by kernel_rfl) rfl ?_
  intro w13 hs14
  refine ⟨Xo, ?_⟩
  refine GoR.done (GoQ.thn (GoC.seq ?_))
  refine Xt (.rd 0 (.rd 1 (.rd 2 (.ef 3 (.rd 4 (.rd 5 (.rd 6 (.rd 7 .done)))))))) ?_
  refine Xk [(0, .gen [.slice ar row.length cr]), (1, .gen []), (2, .gen [])] [(0, [.cell ⟨b1, 0, none⟩ (.slice ar row.length cr)])] [(10, .func (.func 50) #[] #[vp b4 0, vp b1 0, vp b10 0]), (9, .int .i64 (row.length : Nat)), (5, .bool false), (4, .int .i64 0)] (ak (okc (hs14.cell 3 rfl (by kernel_rfl)) ok0) ak0) ?_
  have hs15 : St w0 ((Cel b4 #[.func (.func 26) #[] #[]] 74) :: (Cel b1 #[.slice ar row.length cr] 23) :: (Cel b10 #[.map (some r7)] 91) :: (MapA ekN evI r7 ([])) :: L) w13 := ((((hs14.pull 1 rfl).pull 1 rfl).pull 3 rfl).pull 3 rfl)
  refine Xa (f := 40) (args := #[.int .i64 (row.length : Nat), .func (.func 50) #[] #[vp b4 0, vp b1 0, vp b10 0]]) Tryz.call40 (twQFi_spec row (by omega) (fun w h => hr _ (h.drop 0)) hs15) ?_
  rintro v17 w18 ⟨rfl, hs16⟩
  refine ⟨Xo, ?_⟩
  refine Xk [(4, .gen []), (5, .gen []), (6, .gen []), (7, .gen [])] [] [(5, .bool ((twO nameQ dReq row).isSome)), (4, .int .i64 ((twO nameQ dReq row).getD 0 : Nat))] ak0 ?_
  refine GoR.done (GoQ.thn (GoC.ret ?_))
  refine X2 (v := .int .i64 ((twO nameQ dReq row).getD 0 : Nat)) (v' := .bool ((twO nameQ dReq row).isSome)) ?_
  exact ⟨rfl, hs16⟩
def othB (mm : List (Int × RepV)) (row : List ReqV) (c : CallV) : Bool :=
  if c.done = true then
    if (!((aget mm (placeI c row)).isSome)) = true then
      true
    else
      !(decide ((aget mm (placeI c row)).getD (⟨0, ⟨#[]⟩⟩ : RepV) = c.reply))
  else
    false
theorem othB_spec {w0 w : World} {L : List Asn} {bm : Nat} {rm : Nat} {bx : Nat} {x : Nat} {al : Option Addr} {cl : Nat} {ar : Option Addr} {cr : Nat} (l : List CallV) (row : List ReqV) (c : CallV) (mm : List (Int × RepV)) (hll : l.length ≤ 1000000) (hrr : row.length ≤ 1000000) (hr1 : ∀ w, St w0 L w → RowsAt w al l.length 13 (fun k => CallV.cells (l.getD k dCall))) (hr2 : ∀ w, St w0 L w → RowsAt w ar row.length 40 (fun k => ReqV.cells (row.getD k dReq))) (hs : St w0 ((Cel bm #[.map (some rm)] 101) :: (MapA evI evR rm mm) :: (Cel bx #[vp x 0] 62) :: (Cel x #[.slice al l.length cl, .slice ar row.length cr] 64) :: L) w) : Calls Tryz.prog 55 #[.agg (CallV.cells c), vp bm 0, vp bx 0] w (Ret fun rv w' => rv = .bool (othB mm row c) ∧ St w0 ((Cel bm #[.map (some rm)] 101) :: (MapA evI evR rm mm) :: (Cel bx #[vp x 0] 62) :: (Cel x #[.slice al l.length cl, .slice ar row.length cr] 64) :: L) w') := by
  refine enter (args := [.agg (CallV.cells c), vp bm 0, vp bx 0]) Tryz.func55 rfl Tryz.ntmps55 (Nat.le_of_ble_eq_true (by kernel_rfl)) ?_
  refine GoC.slots (S' := [(0, .agg (CallV.cells c)), (1, vp bm 0), (2, vp bx 0)]) rfl ?_
  refine GoC.seq ?_
  refine Xt (.ef 0 (.rd 1 .done)) ?_
  refine GoR.box rfl rfl (by kernel_rfl) (v := .agg (CallV.cells c)) (by kernel_rfl) hs (cs := CallV.cells c) (by kernel_rfl) ?_
  intro b1 w2 hs3
  refine ⟨Xo, ?_⟩
  refine Xk [(1, .gen [])] [] [(4, .bool false), (3, vp b1 0), (1, vp bm 0), (2, vp bx 0)] ak0 ?_
  refine GoR.done (GoQ.thn (GoC.seq ?_))
  refine GoC.join (T := Nat) (E := fun jx => [(3, vp b1 0), (4, .bool false), (5, vp jx 0), (6, .bool ((aget mm (placeI c row)).isSome))]) (F := fun jx w => St w0 ((Cel jx (RepV.cells ((aget mm (placeI c row)).getD (⟨0, ⟨#[]⟩⟩ : RepV))) 51) :: (Cel x #[.slice al l.length cl, .slice ar row.length cr] 64) :: (Cel b1 (CallV.cells c) 53) :: (Cel bm #[.map (some rm)] 101) :: (MapA evI evR rm mm) :: (Cel bx #[vp x 0] 62) :: L) w) ?_ ?_
  · refine GoC.regD [0, 0, 0, 6, 15, 31, 63, 63, 0, 383, 1023] (.rd 0 (.rd 1 (.rd 2 (.alt (.ef 3 (.rd 4 (.rd 5 (.rd 6 (.rd 7 (.ef 8 (.ef 9 (.rd 10 .done)))))))) (.ef 8 (.ef 3 (.rd 4 (.rd 5 (.rd 6 (.rd 7 (.ef 9 (.rd 10 .done)))))))))))) (by kernel_rfl) (by kernel_rfl) noPan_body (by kernel_rfl) hs3 ?_
    intro w4 hs5 hw6
    refine Xk [(0, .gen [.map (some rm)]), (1, .gen [vp x 0]), (2, .agg (CallV.cells c))] [(0, [.cell ⟨bm, 0, none⟩ (.map (some rm))]), (1, [.cell ⟨bx, 0, none⟩ (vp x 0)]), (2, [.prop (Array.size (CallV.cells c) = 13), .cells ⟨b1, 0, none⟩ (CallV.cells c)])] [(10, .agg (CallV.cells c)), (9, vp x 0), (8, .map (some rm)), (4, .bool false), (3, vp b1 0)] (ak (okc (hs5.cell 1 rfl (by kernel_rfl)) ok0) (ak (okc (hs5.cell 3 rfl (by kernel_rfl)) ok0) (ak (okp (by kernel_rfl) (oka (hs5.cells 0 0 rfl (by kernel_rfl)) ok0)) ak0))) ?_
    refine GoR.alt ?_ ?_
    · have hs7 : St w0 ((Cel x #[.slice al l.length cl, .slice ar row.length cr] 64) :: (Cel b1 (CallV.cells c) 53) :: (Cel bm #[.map (some rm)] 101) :: (MapA evI evR rm mm) :: (Cel bx #[vp x 0] 62) :: L) w4 := (hs5.pull 4 rfl)
      refine Xa (f := 52) (args := #[vp x 0, .agg (CallV.cells c)]) Tryz.call52 (place_spec l row c (by omega) (by omega) (fun w h => hr1 _ (h.drop 4)) (fun w h => hr2 _ (h.drop 4)) hs7) ?_
      rintro v9 w10 ⟨rfl, hs8⟩
      refine ⟨(opl (n := [.cell ⟨bm, 0, none⟩ (.map (some rm))]) (by kernel_rfl) (okc (hs8.cell 2 rfl (by kernel_rfl)) ok0)), ?_⟩
      refine GoR.lookup rfl (by kernel_rfl) rpLaw (r := rm) (k := (placeI c row)) (ok := true) (by kernel_rfl) hs8 3 rfl (z := evR (⟨0, ⟨#[]⟩⟩ : RepV)) (by kernel_rfl) (v := .tuple #[.agg (RepV.cells ((aget mm (placeI c row)).getD (⟨0, ⟨#[]⟩⟩ : RepV))), .bool ((aget mm (placeI c row)).isSome)]) (lookOk _ _ _) ?_
      refine Xk [(5, .gen []), (6, .gen []), (7, .gen [])] [] [(14, .bool ((aget mm (placeI c row)).isSome)), (13, .agg (RepV.cells ((aget mm (placeI c row)).getD (⟨0, ⟨#[]⟩⟩ : RepV)))), (4, .bool false), (3, vp b1 0)] ak0 ?_
      refine GoR.alloc rfl rfl (by kernel_rfl) (z := .agg (RepV.cells ⟨0, ⟨#[]⟩⟩)) (by kernel_rfl) hs8 (cs := RepV.cells (⟨0, ⟨#[]⟩⟩ : RepV)) (by kernel_rfl) ?_
      intro b11 w12 hs13
      refine ⟨(opl (n := [.holds (MapA evI evR rm mm).holds, .prop (Array.size (CallV.cells c) = 13), .cells ⟨b1, 0, none⟩ (CallV.cells c), .cell ⟨bx, 0, none⟩ (vp x 0), .cell ⟨bm, 0, none⟩ (.map (some rm))]) (by kernel_rfl) (okh (hs13.at_ 4 rfl) (okp (by kernel_rfl) (oka (hs13.cells 2 0 rfl (by kernel_rfl)) (okc (hs13.cell 5 rfl (by kernel_rfl)) (okc (hs13.cell 3 rfl (by kernel_rfl)) ok0)))))), ?_⟩
      refine GoR.store rfl rfl (by kernel_rfl) (b := b11) (off := 0) (v := .agg (RepV.cells ((aget mm (placeI c row)).getD (⟨0, ⟨#[]⟩⟩ : RepV)))) (by kernel_rfl) (by kernel_rfl) (ti := Tryz.t51) (by kernel_rfl) hs13 0 rfl (by kernel_rfl) (by kernel_rfl) (Nat.le_of_ble_eq_true (by kernel_rfl)) (cs' := RepV.cells ((aget mm (placeI c row)).getD (⟨0, ⟨#[]⟩⟩ : RepV))) (L' := (Cel b11 (RepV.cells ((aget mm (placeI c row)).getD (⟨0, ⟨#[]⟩⟩ : RepV))) 51) :: (Cel x #[.slice al l.length cl, .slice ar row.length cr] 64) :: (Cel b1 (CallV.cells c) 53) :: (Cel bm #[.map (some rm)] 101) :: (MapA evI evR rm mm) :: (Cel bx #[vp x 0] 62) :: L) (by kernel_rfl) rfl ?_
      intro w14 hs15
      refine ⟨Xo, ?_⟩
      refine Xk [(10, .gen [])] [] [(6, .bool ((aget mm (placeI c row)).isSome)), (5, vp b11 0), (4, .bool false), (3, vp b1 0)] ak0 ?_
      refine GoR.done ?_
      refine GoQ.pick [3, 4, 5, 6] (S' := [(3, vp b1 0), (4, .bool false), (5, vp b11 0), (6, .bool ((aget mm (placeI c row)).isSome))]) (by kernel_rfl) ?_
      exact GoQ.meet1 b11 rfl hs15
    refine GoR.alloc rfl rfl (by kernel_rfl) (z := .agg (RepV.cells ⟨0, ⟨#[]⟩⟩)) (by kernel_rfl) hs5 (cs := RepV.cells (⟨0, ⟨#[]⟩⟩ : RepV)) (by kernel_rfl) ?_
    intro b16 w17 hs18
    refine ⟨(opl (n := [.prop (Array.size (CallV.cells c) = 13), .cells ⟨b1, 0, none⟩ (CallV.cells c), .cell ⟨bx, 0, none⟩ (vp x 0), .cell ⟨bm, 0, none⟩ (.map (some rm))]) (by kernel_rfl) (okp (by kernel_rfl) (oka (hs18.cells 1 0 rfl (by kernel_rfl)) (okc (hs18.cell 4 rfl (by kernel_rfl)) (okc (hs18.cell 2 rfl (by kernel_rfl)) ok0))))), ?_⟩
    have hs19 : St w0 ((Cel x #[.slice al l.length cl, .slice ar row.length cr] 64) :: (Cel b16 (RepV.cells (⟨0, ⟨#[]⟩⟩ : RepV)) 51) :: (Cel b1 (CallV.cells c) 53) :: (Cel bm #[.map (some rm)] 101) :: (MapA evI evR rm mm) :: (Cel bx #[vp x 0] 62) :: L) w17 := (hs18.pull 5 rfl)
    refine Xa (f := 52) (args := #[vp x 0, .agg (CallV.cells c)]) Tryz.call52 (place_spec l row c (by omega) (by omega) (fun w h => hr1 _ (h.drop 5)) (fun w h => hr2 _ (h.drop 5)) hs19) ?_
    rintro v21 w22 ⟨rfl, hs20⟩
    refine ⟨(opl (n := [.cell ⟨bm, 0, none⟩ (.map (some rm))]) (by kernel_rfl) (okc (hs20.cell 3 rfl (by kernel_rfl)) ok0)), ?_⟩
    refine GoR.lookup rfl (by kernel_rfl) rpLaw (r := rm) (k := (placeI c row)) (ok := true) (by kernel_rfl) hs20 4 rfl (z := evR (⟨0, ⟨#[]⟩⟩ : RepV)) (by kernel_rfl) (v := .tuple #[.agg (RepV.cells ((aget mm (placeI c row)).getD (⟨0, ⟨#[]⟩⟩ : RepV))), .bool ((aget mm (placeI c row)).isSome)]) (lookOk _ _ _) ?_
    refine Xk [(5, .gen []), (6, .gen []), (7, .gen [])] [] [(14, .bool ((aget mm (placeI c row)).isSome)), (13, .agg (RepV.cells ((aget mm (placeI c row)).getD (⟨0, ⟨#[]⟩⟩ : RepV)))), (5, vp b16 0), (4, .bool false), (3, vp b1 0)] ak0 ?_
    refine GoR.store rfl rfl (by kernel_rfl) (b := b16) (off := 0) (v := .agg (RepV.cells ((aget mm (placeI c row)).getD (⟨0, ⟨#[]⟩⟩ : RepV)))) (by kernel_rfl) (by kernel_rfl) (ti := Tryz.t51) (by kernel_rfl) hs20 1 rfl (by kernel_rfl) (by kernel_rfl) (Nat.le_of_ble_eq_true (by kernel_rfl)) (cs' := RepV.cells ((aget mm (placeI c row)).getD (⟨0, ⟨#[]⟩⟩ : RepV))) (L' := (Cel x #[.slice al l.length cl, .slice ar row.length cr] 64) :: (Cel b16 (RepV.cells ((aget mm (placeI c row)).getD (⟨0, ⟨#[]⟩⟩ : RepV))) 51) :: (Cel b1 (CallV.cells c) 53) :: (Cel bm #[.map (some rm)] 101) :: (MapA evI evR rm mm) :: (Cel bx #[vp x 0] 62) :: L) (by kernel_rfl) rfl ?_
    intro w23 hs24
    refine ⟨Xo, ?_⟩
    refine Xk [(10, .gen [])] [] [(6, .bool ((aget mm (placeI c row)).isSome)), (5, vp b16 0), (4, .bool false), (3, vp b1 0)] ak0 ?_
    refine GoR.done ?_
    have hs25 : St w0 ((Cel b16 (RepV.cells ((aget mm (placeI c row)).getD (⟨0, ⟨#[]⟩⟩ : RepV))) 51) :: (Cel x #[.slice al l.length cl, .slice ar row.length cr] 64) :: (Cel b1 (CallV.cells c) 53) :: (Cel bm #[.map (some rm)] 101) :: (MapA evI evR rm mm) :: (Cel bx #[vp x 0] 62) :: L) w23 := ((((((hs24.pull 5 rfl).pull 5 rfl).pull 5 rfl).pull 5 rfl).pull 4 rfl).pull 5 rfl)
    refine GoQ.pick [3, 4, 5, 6] (S' := [(3, vp b1 0), (4, .bool false), (5, vp b16 0), (6, .bool ((aget mm (placeI c row)).isSome))]) (by kernel_rfl) ?_
    exact GoQ.meet1 b16 rfl hs25
  rintro b26 w27 hs28
  have hs29 : St w0 ((Cel b26 (RepV.cells ((aget mm (placeI c row)).getD (⟨0, ⟨#[]⟩⟩ : RepV))) 51) :: (Cel x #[.slice al l.length cl, .slice ar row.length cr] 64) :: (Cel b1 (CallV.cells c) 53) :: (Cel bm #[.map (some rm)] 101) :: (MapA evI evR rm mm) :: (Cel bx #[vp x 0] 62) :: L) w27 := hs28
  refine GoQ.slots (S' := [(3, vp b1 0), (4, .bool false), (5, vp b26 0), (6, .bool ((aget mm (placeI c row)).isSome))]) rfl ?_
  refine GoQ.thn (GoC.seq ?_)
  refine Xt (.rd 0 (.rd 1 (.rd 2 (.rd 3 (.rd 4 (.rd 5 (.rd 6 (.rd 7 (.rd 8 (.rd 9 (.rd 10 (.rd 11 (.rd 12 .done))))))))))))) ?_
  refine Xk [(0, .gen []), (1, .gen [.bool c.done]), (2, .gen [])] [(1, [.cell ⟨b1, 10, none⟩ (.bool c.done)])] [(17, .bool c.done), (3, vp b1 0), (4, .bool false), (5, vp b26 0), (6, .bool ((aget mm (placeI c row)).isSome))] (ak (okc (hs29.cell 2 rfl (by kernel_rfl)) ok0) ak0) ?_
  rcases Bool.eq_false_or_eq_true c.done with h30 | h30
  · refine Xs 17 true h30 ?_
    refine Xk [(3, .gen []), (4, .gen []), (5, .gen [])] [] [(20, .bool (!((aget mm (placeI c row)).isSome))), (17, .bool true), (3, vp b1 0), (4, .bool false), (5, vp b26 0)] ak0 ?_
    rcases Bool.eq_false_or_eq_true (!((aget mm (placeI c row)).isSome)) with h31 | h31
    · refine Xs 20 true h31 ?_
      have h31n : ((aget mm (placeI c row)).isSome) = false := notT h31
      refine Xk [(6, .gen []), (7, .gen []), (8, .gen []), (9, .gen []), (10, .gen []), (11, .gen []), (12, .gen [])] [] [(4, .bool true)] ak0 ?_
      refine GoR.done (GoQ.thn (GoC.ret ?_))
      refine X1 (v := .bool true) ?_
      have hr : othB mm row c = true := by rw [othB, if_pos h30, if_pos h31]
      have hs32 : St w0 ((Cel b26 (RepV.cells ((aget mm (placeI c row)).getD (⟨0, ⟨#[]⟩⟩ : RepV))) 51) :: (Cel b1 (CallV.cells c) 53) :: (Cel bm #[.map (some rm)] 101) :: (MapA evI evR rm mm) :: (Cel bx #[vp x 0] 62) :: (Cel x #[.slice al l.length cl, .slice ar row.length cr] 64) :: L) w27 := ((((((hs29.pull 1 rfl).pull 5 rfl).pull 5 rfl).pull 5 rfl).pull 5 rfl).pull 5 rfl)
      have hs33 : St w0 ((Cel bm #[.map (some rm)] 101) :: (MapA evI evR rm mm) :: (Cel bx #[vp x 0] 62) :: (Cel x #[.slice al l.length cl, .slice ar row.length cr] 64) :: L) w27 := hs32.drop 2
      exact ⟨(by first | rfl | (rw [hr]; done) | (rw [hr]; rfl)), (by first | exact hs33 | (rw [hr]; exact hs33))⟩
    · refine Xs 20 false h31 ?_
      have h31n : ((aget mm (placeI c row)).isSome) = true := notF h31
      refine Xk [(6, .agg (RepV.cells ((aget mm (placeI c row)).getD (⟨0, ⟨#[]⟩⟩ : RepV)))), (7, .gen []), (8, .agg (RepV.cells c.reply))] [(6, [.prop (Array.size (RepV.cells ((aget mm (placeI c row)).getD (⟨0, ⟨#[]⟩⟩ : RepV))) = 2), .cells ⟨b26, 0, none⟩ (RepV.cells ((aget mm (placeI c row)).getD (⟨0, ⟨#[]⟩⟩ : RepV)))]), (8, [.prop (Array.size (RepV.cells c.reply) = 2), .cells ⟨b1, 11, none⟩ (RepV.cells c.reply)])] [(23, .agg (RepV.cells c.reply)), (21, .agg (RepV.cells ((aget mm (placeI c row)).getD (⟨0, ⟨#[]⟩⟩ : RepV)))), (20, .bool false), (17, .bool true), (4, .bool false)] (ak (okp (by kernel_rfl) (oka (hs29.cells 0 0 rfl (by kernel_rfl)) ok0)) (ak (okp (by kernel_rfl) (oka (hs29.cells 2 11 rfl (by kernel_rfl)) ok0)) ak0)) ?_
      refine GoR.eqAgg rfl (by kernel_rfl) (b := false) (t := 51) (xs := RepV.cells ((aget mm (placeI c row)).getD (⟨0, ⟨#[]⟩⟩ : RepV))) (ys := RepV.cells c.reply) (m := 2) (by kernel_rfl) (by kernel_rfl) (by decide) (by kernel_rfl) (r := !(decide ((aget mm (placeI c row)).getD (⟨0, ⟨#[]⟩⟩ : RepV) = c.reply))) (aggNe  (repEq ((aget mm (placeI c row)).getD (⟨0, ⟨#[]⟩⟩ : RepV)) c.reply)) ?_
      refine Xk [(10, .gen []), (11, .gen []), (12, .gen [])] [] [(4, .bool (!(decide ((aget mm (placeI c row)).getD (⟨0, ⟨#[]⟩⟩ : RepV) = c.reply))))] ak0 ?_
      refine GoR.done (GoQ.thn (GoC.ret ?_))
      refine X1 (v := .bool (!(decide ((aget mm (placeI c row)).getD (⟨0, ⟨#[]⟩⟩ : RepV) = c.reply)))) ?_
      have hr : othB mm row c = !(decide ((aget mm (placeI c row)).getD (⟨0, ⟨#[]⟩⟩ : RepV) = c.reply)) := by rw [othB, if_pos h30, if_neg (ne_true_of_eq_false h31)]
      have hs34 : St w0 ((Cel b26 (RepV.cells ((aget mm (placeI c row)).getD (⟨0, ⟨#[]⟩⟩ : RepV))) 51) :: (Cel b1 (CallV.cells c) 53) :: (Cel bm #[.map (some rm)] 101) :: (MapA evI evR rm mm) :: (Cel bx #[vp x 0] 62) :: (Cel x #[.slice al l.length cl, .slice ar row.length cr] 64) :: L) w27 := ((((((hs29.pull 1 rfl).pull 5 rfl).pull 5 rfl).pull 5 rfl).pull 5 rfl).pull 5 rfl)
      have hs35 : St w0 ((Cel bm #[.map (some rm)] 101) :: (MapA evI evR rm mm) :: (Cel bx #[vp x 0] 62) :: (Cel x #[.slice al l.length cl, .slice ar row.length cr] 64) :: L) w27 := hs34.drop 2
      exact ⟨(by first | rfl | (rw [hr]; done) | (rw [hr]; rfl)), (by first | exact hs35 | (rw [hr]; exact hs35))⟩
  · refine Xs 17 false h30 ?_
    refine Xk [(3, .gen []), (4, .gen []), (5, .gen []), (6, .gen []), (7, .gen []), (8, .gen []), (9, .gen []), (10, .gen []), (11, .gen []), (12, .gen [])] [] [(4, .bool false)] ak0 ?_
    refine GoR.done (GoQ.thn (GoC.ret ?_))
    refine X1 (v := .bool false) ?_
    have hr : othB mm row c = false := by rw [othB, if_neg (ne_true_of_eq_false h30)]
    have hs36 : St w0 ((Cel b26 (RepV.cells ((aget mm (placeI c row)).getD (⟨0, ⟨#[]⟩⟩ : RepV))) 51) :: (Cel b1 (CallV.cells c) 53) :: (Cel bm #[.map (some rm)] 101) :: (MapA evI evR rm mm) :: (Cel bx #[vp x 0] 62) :: (Cel x #[.slice al l.length cl, .slice ar row.length cr] 64) :: L) w27 := ((((((hs29.pull 1 rfl).pull 5 rfl).pull 5 rfl).pull 5 rfl).pull 5 rfl).pull 5 rfl)
    have hs37 : St w0 ((Cel bm #[.map (some rm)] 101) :: (MapA evI evR rm mm) :: (Cel bx #[vp x 0] 62) :: (Cel x #[.slice al l.length cl, .slice ar row.length cr] 64) :: L) w27 := hs36.drop 2
    exact ⟨(by first | rfl | (rw [hr]; done) | (rw [hr]; rfl)), (by first | exact hs37 | (rw [hr]; exact hs37))⟩
theorem otC1_spec {w0 w : World} {L : List Asn} {bf : Nat} {bz : Nat} {x : Nat} {al : Option Addr} {cl : Nat} {ar : Option Addr} {cr : Nat} {bm : Nat} {rm : Nat} {bx : Nat} (l : List CallV) (row : List ReqV) (mm : List (Int × RepV)) (i : Nat) (hll : l.length ≤ 1000000) (hrr : row.length ≤ 1000000) (hi : i < l.length) (hr1 : ∀ w, St w0 L w → RowsAt w al l.length 13 (fun k => CallV.cells (l.getD k dCall))) (hr2 : ∀ w, St w0 L w → RowsAt w ar row.length 40 (fun k => ReqV.cells (row.getD k dReq))) (hs : St w0 ((Cel bf #[.func (.func 55) #[] #[vp bm 0, vp bx 0]] 96) :: (Cel bz #[vp x 0] 62) :: (Cel x #[.slice al l.length cl, .slice ar row.length cr] 64) :: (Cel bm #[.map (some rm)] 101) :: (MapA evI evR rm mm) :: (Cel bx #[vp x 0] 62) :: L) w) : Calls Tryz.prog 60 #[.int .i64 (i : Nat), vp bf 0, vp bz 0] w (Ret fun rv w' => rv = .bool ((othB mm row) (l.getD i dCall)) ∧ St w0 ((Cel bf #[.func (.func 55) #[] #[vp bm 0, vp bx 0]] 96) :: (Cel bz #[vp x 0] 62) :: (Cel x #[.slice al l.length cl, .slice ar row.length cr] 64) :: (Cel bm #[.map (some rm)] 101) :: (MapA evI evR rm mm) :: (Cel bx #[vp x 0] 62) :: L) w') := by
  refine enter (args := [.int .i64 (i : Nat), vp bf 0, vp bz 0]) Tryz.func60 rfl Tryz.ntmps60 (Nat.le_of_ble_eq_true (by kernel_rfl)) ?_
  refine GoC.slots (S' := [(0, .int .i64 (i : Nat)), (1, vp bf 0), (2, vp bz 0)]) rfl ?_
  refine GoC.seq ?_
  refine Xt (.rd 0 .done) ?_
  refine Xk [(0, .gen [])] [] [(4, .bool false), (0, .int .i64 (i : Nat)), (1, vp bf 0), (2, vp bz 0)] ak0 ?_
  refine GoR.done (GoQ.thn (GoC.seq ?_))
  obtain ⟨ab1, ao2, rfl⟩ := RowsAt.isSome (hr1 _ (hs.drop 6)) (by omega)
  refine GoC.regD [0, 0, 2, 6, 14, 0, 62, 126, 255, 511] (.rd 0 (.rd 1 (.rd 2 (.rd 3 (.rd 4 (.rd 5 (.rd 6 (.rd 7 (.ef 8 (.rd 9 .done)))))))))) (by kernel_rfl) (by kernel_rfl) noPan_body (by kernel_rfl) hs ?_
  intro w3 hs4 hw5
  refine Xk [(0, .gen [.func (.func 55) #[] #[vp bm 0, vp bx 0]]), (1, .gen [vp x 0]), (2, .gen []), (3, .gen []), (4, .gen [vl ab1 ao2 l.length cl]), (5, .gen []), (6, .as_ (vp ab1 (ao2 + (i * 13))) .at_), (7, .agg (CallV.cells (l.getD i dCall)))] [(0, [.cell ⟨bf, 0, none⟩ (.func (.func 55) #[] #[vp bm 0, vp bx 0])]), (1, [.cell ⟨bz, 0, none⟩ (vp x 0)]), (4, [.cell ⟨x, 0, none⟩ (vl ab1 ao2 l.length cl)]), (6, [.prop (0 ≤ ((i : Nat) : Int) ∧ ((i : Nat) : Int) < ((l.length : Nat) : Int)), .prop (Value.pointer (some (Addr.add ⟨ab1, ao2, none⟩ (Int.toNat (i : Nat) * 13))) = Value.pointer (some ⟨ab1, ao2 + (i * 13), none⟩))]), (7, [.prop (Array.size (CallV.cells (l.getD i dCall)) = 13), .cells ⟨ab1, ao2 + (i * 13), none⟩ (CallV.cells (l.getD i dCall))])] [(12, .agg (CallV.cells (l.getD i dCall))), (5, .func (.func 55) #[] #[vp bm 0, vp bx 0]), (4, .bool false)] (ak (okc (hs4.cell 0 rfl (by kernel_rfl)) ok0) (ak (okc (hs4.cell 1 rfl (by kernel_rfl)) ok0) (ak (okc (hs4.cell 2 rfl (by kernel_rfl)) ok0) (ak (okp (by omega) (okp (ptrAdd _ _ _) ok0)) (ak (okp (by kernel_rfl) (oka (RowsAt.all0 (hr1 _ (hs4.drop 6)) (by first | omega | (simp only [List.length_set]; omega) | (simp only [List.length_set, List.length_append, List.length_cons, List.length_nil]; omega)) (Nat.le_of_ble_eq_true (by kernel_rfl)) (by kernel_rfl)) ok0)) ak0))))) ?_
  have hs6 : St w0 ((Cel bm #[.map (some rm)] 101) :: (MapA evI evR rm mm) :: (Cel bx #[vp x 0] 62) :: (Cel x #[vl ab1 ao2 l.length cl, .slice ar row.length cr] 64) :: (Cel bf #[.func (.func 55) #[] #[vp bm 0, vp bx 0]] 96) :: (Cel bz #[vp x 0] 62) :: L) w3 := ((((hs4.pull 2 rfl).pull 5 rfl).pull 5 rfl).pull 5 rfl)
  refine Xa (f := 55) (args := #[.agg (CallV.cells (l.getD i dCall)), vp bm 0, vp bx 0]) Tryz.call55 (othB_spec l row (l.getD i dCall) mm (by omega) (by omega) (fun w h => hr1 _ (h.drop 2)) (fun w h => hr2 _ (h.drop 2)) hs6) ?_
  rintro v8 w9 ⟨rfl, hs7⟩
  refine ⟨Xo, ?_⟩
  refine Xk [(9, .gen [])] [] [(4, .bool (othB mm row (l.getD i dCall)))] ak0 ?_
  refine GoR.done (GoQ.thn (GoC.ret ?_))
  refine X1 (v := .bool (othB mm row (l.getD i dCall))) ?_
  have hs10 : St w0 ((Cel bf #[.func (.func 55) #[] #[vp bm 0, vp bx 0]] 96) :: (Cel bz #[vp x 0] 62) :: (Cel x #[vl ab1 ao2 l.length cl, .slice ar row.length cr] 64) :: (Cel bm #[.map (some rm)] 101) :: (MapA evI evR rm mm) :: (Cel bx #[vp x 0] 62) :: L) w9 := ((((((hs7.pull 2 rfl).pull 2 rfl).pull 2 rfl).pull 3 rfl).pull 5 rfl).pull 5 rfl)
  exact ⟨rfl, hs10⟩
theorem otFi_spec {w0 w : World} {L : List Asn} {bf : Nat} {bz : Nat} {x : Nat} {al : Option Addr} {cl : Nat} {ar : Option Addr} {cr : Nat} {bm : Nat} {rm : Nat} {bx : Nat} (l : List CallV) (row : List ReqV) (mm : List (Int × RepV)) (hll : l.length ≤ 1000000) (hrr : row.length ≤ 1000000) (hr1 : ∀ w, St w0 L w → RowsAt w al l.length 13 (fun k => CallV.cells (l.getD k dCall))) (hr2 : ∀ w, St w0 L w → RowsAt w ar row.length 40 (fun k => ReqV.cells (row.getD k dReq))) (hs : St w0 ((Cel bf #[.func (.func 55) #[] #[vp bm 0, vp bx 0]] 96) :: (Cel bz #[vp x 0] 62) :: (Cel x #[.slice al l.length cl, .slice ar row.length cr] 64) :: (Cel bm #[.map (some rm)] 101) :: (MapA evI evR rm mm) :: (Cel bx #[vp x 0] 62) :: L) w) : Calls Tryz.prog 40 #[.int .i64 (l.length : Nat), .func (.func 60) #[] #[vp bf 0, vp bz 0]] w (Ret fun rv w' => rv = .tuple #[.int .i64 ((idx dCall l (othB mm row)).getD 0 : Nat), .bool ((idx dCall l (othB mm row)).isSome)] ∧ St w0 ((Cel bf #[.func (.func 55) #[] #[vp bm 0, vp bx 0]] 96) :: (Cel bz #[vp x 0] 62) :: (Cel x #[.slice al l.length cl, .slice ar row.length cr] 64) :: (Cel bm #[.map (some rm)] 101) :: (MapA evI evR rm mm) :: (Cel bx #[vp x 0] 62) :: L) w') := by
  refine enter (args := [.int .i64 (l.length : Nat), .func (.func 60) #[] #[vp bf 0, vp bz 0]]) Tryz.func40 rfl Tryz.ntmps40 (Nat.le_of_ble_eq_true (by kernel_rfl)) ?_
  refine GoC.slots (S' := [(0, .int .i64 (l.length : Nat)), (1, .func (.func 60) #[] #[vp bf 0, vp bz 0])]) rfl ?_
  refine GoC.seq ?_
  refine Xt (.rd 0 (.rd 1 .done)) ?_
  refine Xk [(0, .gen []), (1, .gen [])] [] [(5, .bool false), (4, .int .i64 0), (0, .int .i64 (l.length : Nat)), (1, .func (.func 60) #[] #[vp bf 0, vp bz 0])] ak0 ?_
  refine GoR.done (GoQ.thn (GoC.seq (GoC.seq ?_)))
  refine Xt (.rd 0 (.rd 1 .done)) ?_
  refine Xk [(0, .gen []), (1, .gen [])] [] [(8, .int .i64 0), (7, .int .i64 (l.length : Nat)), (5, .bool false), (4, .int .i64 0), (1, .func (.func 60) #[] #[vp bf 0, vp bz 0])] ak0 ?_
  refine GoR.done (GoQ.thn (GoC.block ?_))
  refine GoC.loop (T := Nat) (fun gg => [(1, .func (.func 60) #[] #[vp bf 0, vp bz 0]), (7, .int .i64 (l.length : Nat)), (8, .int .i64 (gg : Nat))]) (fun gg w => (gg ≤ l.length ∧ ∀ z, z < gg → (othB mm row) (l.getD z dCall) = false) ∧ St w0 ((Cel bf #[.func (.func 55) #[] #[vp bm 0, vp bx 0]] 96) :: (Cel bz #[vp x 0] 62) :: (Cel x #[.slice al l.length cl, .slice ar row.length cr] 64) :: (Cel bm #[.map (some rm)] 101) :: (MapA evI evR rm mm) :: (Cel bx #[vp x 0] 62) :: L) w) (fun gg => l.length - gg) 0 [1, 7, 8] (by kernel_rfl) ⟨⟨Nat.zero_le _, fun i hi => absurd hi (Nat.not_lt_zero _)⟩, hs⟩ ?_
  rintro k w1 ⟨hp0, hs2⟩
  have hp : k ≤ l.length ∧ ∀ z, z < k → (othB mm row) (l.getD z dCall) = false := hp0
  have hs3 : St w0 ((Cel bf #[.func (.func 55) #[] #[vp bm 0, vp bx 0]] 96) :: (Cel bz #[vp x 0] 62) :: (Cel x #[.slice al l.length cl, .slice ar row.length cr] 64) :: (Cel bm #[.map (some rm)] 101) :: (MapA evI evR rm mm) :: (Cel bx #[vp x 0] 62) :: L) w1 := hs2
  refine GoC.slots (S' := [(1, .func (.func 60) #[] #[vp bf 0, vp bz 0]), (7, .int .i64 (l.length : Nat)), (8, .int .i64 (k : Nat))]) rfl ?_
  refine GoC.seq ?_
  refine Xt (.rd 0 .done) ?_
  refine Xk [(0, .gen [])] [] [(9, .bool (decide (((k : Nat) : Int) < (l.length : Nat)))), (1, .func (.func 60) #[] #[vp bf 0, vp bz 0]), (7, .int .i64 (l.length : Nat)), (8, .int .i64 (k : Nat))] ak0 ?_
  refine GoR.done (GoQ.thn (GoC.seq ?_))
  refine Xc (t := decide (((k : Nat) : Int) < (l.length : Nat))) (fun h4 => ?_) (fun h4 => ?_)
  · have h4' : ((k : Nat) : Int) < (l.length : Nat) := of_decide_eq_true h4
    have hk : k < l.length := by omega
    refine GoC.skip (GoQ.thn (GoC.seq (GoC.block (GoC.seq ?_))))
    refine Xt (.rd 0 (.rd 1 .done)) ?_
    refine Xk [(0, .gen []), (1, .gen [])] [] [(6, .int .i64 (k : Nat)), (1, .func (.func 60) #[] #[vp bf 0, vp bz 0]), (7, .int .i64 (l.length : Nat)), (8, .int .i64 (k : Nat))] ak0 ?_
    refine GoR.done (GoQ.thn (GoC.seq ?_))
    refine Xt (.rd 0 (.rd 1 (.ef 2 .done))) ?_
    refine Xk [(0, .gen []), (1, .gen [])] [] [(12, .int .i64 (k : Nat)), (11, .func (.func 60) #[] #[vp bf 0, vp bz 0]), (6, .int .i64 (k : Nat)), (1, .func (.func 60) #[] #[vp bf 0, vp bz 0]), (7, .int .i64 (l.length : Nat)), (8, .int .i64 (k : Nat))] ak0 ?_
    refine Xa (f := 60) (args := #[.int .i64 (k : Nat), vp bf 0, vp bz 0]) Tryz.call60 (otC1_spec l row mm k (by omega) (by omega) hk (fun w h => hr1 _ (h.drop 0)) (fun w h => hr2 _ (h.drop 0)) hs3) ?_
    rintro v6 w7 ⟨rfl, hs5⟩
    refine ⟨Xo, ?_⟩
    refine GoR.done (GoQ.thn ?_)
    refine Xc (t := (othB mm row) (l.getD k dCall)) (fun h8 => ?_) (fun h8 => ?_)
    · refine GoC.seq ?_
      refine Xt (.rd 0 (.rd 1 (.rd 2 .done))) ?_
      refine Xk [(0, .gen []), (1, .gen []), (2, .gen [])] [] [(5, .bool true), (4, .int .i64 (k : Nat)), (1, .func (.func 60) #[] #[vp bf 0, vp bz 0]), (7, .int .i64 (l.length : Nat)), (8, .int .i64 (k : Nat))] ak0 ?_
      refine GoR.done (GoQ.thn (GoC.ret (GoQ.blkR (GoQ.skipCR (GoQ.skipLR (GoQ.blkR (GoQ.skipCR ?_)))))))
      refine X2 (v := .int .i64 (k : Nat)) (v' := .bool true) ?_
      exact ⟨(by rw [idx_at (d := dCall) (p := othB mm row) hk (show (othB mm row) (l.getD k dCall) = true from h8) hp.2]; rfl), hs5⟩
    · refine GoC.skip (GoQ.blkN (GoQ.thn ?_))
      refine Xt (.rd 0 (.rd 1 .done)) ?_
      refine Xk [(0, .as_ (.int .i64 ((k : Nat) + 1)) (.gen [])), (1, .gen [])] [(0, [.prop (Value.int .i64 (IntKind.i64.wrap ((k : Nat) + 1)) = Value.int .i64 ((k : Nat) + 1))])] [(8, .int .i64 ((k : Nat) + 1)), (1, .func (.func 60) #[] #[vp bf 0, vp bz 0]), (7, .int .i64 (l.length : Nat))] (ak (okp (i64ok (by omega) (by omega)) ok0) ak0) ?_
      refine GoR.done ?_
      exact GoQ.back (k + 1) [1, 7, 8] (by kernel_rfl) (by show l.length - (k + 1) < l.length - k; omega) ⟨⟨by omega, none_step (p := fun z => (othB mm row) (l.getD z dCall)) hp.2 (show (othB mm row) (l.getD k dCall) = false from h8)⟩, hs5⟩
  · have h4' : ¬ (((k : Nat) : Int) < (l.length : Nat)) := of_decide_eq_false h4
    refine GoC.exit (GoQ.skipC (GoQ.skipL (GoQ.hit (GoQ.thn (GoC.seq ?_)))))
    refine Xt (.rd 0 (.rd 1 .done)) ?_
    refine Xk [(0, .gen []), (1, .gen [])] [] [(5, .bool false), (4, .int .i64 0)] ak0 ?_
    refine GoR.done (GoQ.thn (GoC.ret ?_))
    refine X2 (v := .int .i64 0) (v' := .bool false) ?_
    exact ⟨(by rw [idx_none (d := dCall) (l := l) (p := othB mm row) (fun i hi => hp.2 i (by omega))]; rfl), hs3⟩
theorem otCa_spec {w0 w : World} {L : List Asn} {x : Nat} {al : Option Addr} {cl : Nat} {ar : Option Addr} {cr : Nat} {bm : Nat} {rm : Nat} {bx : Nat} (l : List CallV) (row : List ReqV) (mm : List (Int × RepV)) (hll : l.length ≤ 1000000) (hrr : row.length ≤ 1000000) (hr1 : ∀ w, St w0 L w → RowsAt w al l.length 13 (fun k => CallV.cells (l.getD k dCall))) (hr2 : ∀ w, St w0 L w → RowsAt w ar row.length 40 (fun k => ReqV.cells (row.getD k dReq))) (hs : St w0 ((Cel x #[.slice al l.length cl, .slice ar row.length cr] 64) :: (Cel bm #[.map (some rm)] 101) :: (MapA evI evR rm mm) :: (Cel bx #[vp x 0] 62) :: L) w) : Calls Tryz.prog 42 #[vp x 0, .func (.func 55) #[] #[vp bm 0, vp bx 0]] w (Ret fun rv w' => rv = .tuple #[.int .i64 ((idx dCall l (othB mm row)).getD 0 : Nat), .bool ((idx dCall l (othB mm row)).isSome)] ∧ St w0 ((Cel x #[.slice al l.length cl, .slice ar row.length cr] 64) :: (Cel bm #[.map (some rm)] 101) :: (MapA evI evR rm mm) :: (Cel bx #[vp x 0] 62) :: L) w') := by
  refine enter (args := [vp x 0, .func (.func 55) #[] #[vp bm 0, vp bx 0]]) Tryz.func42 rfl Tryz.ntmps42 (Nat.le_of_ble_eq_true (by kernel_rfl)) ?_
  refine GoC.slots (S' := [(0, vp x 0), (1, .func (.func 55) #[] #[vp bm 0, vp bx 0])]) rfl ?_
  refine GoC.seq ?_
  refine Xt (.ef 0 (.ef 1 (.rd 2 (.rd 3 .done)))) ?_
  refine GoR.box rfl rfl (by kernel_rfl) (v := vp x 0) (by kernel_rfl) hs (cs := #[vp x 0]) (by kernel_rfl) ?_
  intro b1 w2 hs3
  refine ⟨Xo, ?_⟩
  refine GoR.box rfl rfl (by kernel_rfl) (v := .func (.func 55) #[] #[vp bm 0, vp bx 0]) (by kernel_rfl) hs3 (cs := #[.func (.func 55) #[] #[vp bm 0, vp bx 0]]) (by kernel_rfl) ?_
  intro b4 w5 hs6
  refine ⟨Xo, ?_⟩
  refine Xk [(2, .gen []), (3, .gen [])] [] [(5, .bool false), (4, .int .i64 0), (3, vp b4 0), (2, vp b1 0)] ak0 ?_
  refine GoR.done (GoQ.thn (GoC.seq ?_))
  refine Xt (.rd 0 (.rd 1 (.rd 2 (.rd 3 (.rd 4 (.rd 5 (.ef 6 (.rd 7 (.rd 8 (.rd 9 (.rd 10 .done))))))))))) ?_
  refine Xk [(0, .gen [vp x 0]), (1, .gen []), (2, .gen []), (3, .gen [.slice al l.length cl]), (4, .gen []), (5, .gen [])] [(0, [.cell ⟨b1, 0, none⟩ (vp x 0)]), (3, [.cell ⟨x, 0, none⟩ (.slice al l.length cl)])] [(11, .func (.func 60) #[] #[vp b4 0, vp b1 0]), (10, .int .i64 (l.length : Nat)), (5, .bool false), (4, .int .i64 0)] (ak (okc (hs6.cell 1 rfl (by kernel_rfl)) ok0) (ak (okc (hs6.cell 2 rfl (by kernel_rfl)) ok0) ak0)) ?_
  refine Xa (f := 40) (args := #[.int .i64 (l.length : Nat), .func (.func 60) #[] #[vp b4 0, vp b1 0]]) Tryz.call40 (otFi_spec l row mm (by omega) (by omega) (fun w h => hr1 _ (h.drop 0)) (fun w h => hr2 _ (h.drop 0)) hs6) ?_
  rintro v8 w9 ⟨rfl, hs7⟩
  refine ⟨Xo, ?_⟩
  refine Xk [(7, .gen []), (8, .gen []), (9, .gen []), (10, .gen [])] [] [(5, .bool ((idx dCall l (othB mm row)).isSome)), (4, .int .i64 ((idx dCall l (othB mm row)).getD 0 : Nat))] ak0 ?_
  refine GoR.done (GoQ.thn (GoC.ret ?_))
  refine X2 (v := .int .i64 ((idx dCall l (othB mm row)).getD 0 : Nat)) (v' := .bool ((idx dCall l (othB mm row)).isSome)) ?_
  have hs10 : St w0 ((Cel x #[.slice al l.length cl, .slice ar row.length cr] 64) :: (Cel bm #[.map (some rm)] 101) :: (MapA evI evR rm mm) :: (Cel bx #[vp x 0] 62) :: L) w9 := hs7.drop 2
  exact ⟨rfl, hs10⟩
def repM (row : List ReqV) : Nat → List (Int × RepV)
  | 0 => []
  | k + 1 => if (sdo (trun (row.take k)).1 (trun (row.take k)).2 (row.getD k dReq)).1.2 = true then aset (repM row k) ((k : Nat) : Int) (sdo (trun (row.take k)).1 (trun (row.take k)).2 (row.getD k dReq)).1.1 else repM row k
theorem other_spec {w0 w : World} {L : List Asn} {x : Nat} {al : Option Addr} {cl : Nat} {ar : Option Addr} {cr : Nat} (l : List CallV) (row : List ReqV) (hll : l.length ≤ 1000000) (hrr : row.length ≤ 1000000) (hok : ∀ q ∈ row, 0 ≤ q.op.amount) (hL : ∀ w, St w0 L w → Laid w) (hr1 : ∀ w, St w0 L w → RowsAt w al l.length 13 (fun k => CallV.cells (l.getD k dCall))) (hr2 : ∀ w, St w0 L w → RowsAt w ar row.length 40 (fun k => ReqV.cells (row.getD k dReq))) (hs : St w0 ((Cel x #[.slice al l.length cl, .slice ar row.length cr] 64) :: L) w) : Calls Tryz.prog 28 #[vp x 0] w (Ret fun rv w' => rv = .tuple #[.int .i64 ((idx dCall l (othB (repM row row.length) row)).getD 0 : Nat), .bool ((idx dCall l (othB (repM row row.length) row)).isSome)] ∧ St w0 ((Cel x #[.slice al l.length cl, .slice ar row.length cr] 64) :: L) w') := by
  refine enter (args := [vp x 0]) Tryz.func28 rfl Tryz.ntmps28 (Nat.le_of_ble_eq_true (by kernel_rfl)) ?_
  refine GoC.slots (S' := [(0, vp x 0)]) rfl ?_
  refine GoC.seq ?_
  refine Xt (.ef 0 (.rd 1 (.rd 2 .done))) ?_
  refine GoR.box rfl rfl (by kernel_rfl) (v := vp x 0) (by kernel_rfl) hs (cs := #[vp x 0]) (by kernel_rfl) ?_
  intro b1 w2 hs3
  refine ⟨Xo, ?_⟩
  refine Xk [(1, .gen []), (2, .gen [])] [] [(3, .bool false), (2, .int .i64 0), (1, vp b1 0)] ak0 ?_
  refine GoR.done (GoQ.thn (GoC.seq ?_))
  refine Xt (.ef 0 (.rd 1 .done)) ?_
  refine Xa (f := 53) (args := #[]) Tryz.call53 (stNew_spec hs3) ?_
  rintro v9 w10 ⟨s4, p5, q6, g7, rfl, hs8⟩
  refine ⟨Xo, ?_⟩
  refine Xk [(1, .gen [])] [] [(4, vp s4 0), (3, .bool false), (2, .int .i64 0), (1, vp b1 0)] ak0 ?_
  refine GoR.done (GoQ.thn (GoC.seq ?_))
  refine Xt (.ef 0 (.ef 1 (.ef 2 .done))) ?_
  refine GoR.makeMap (α := Int) (β := RepV) rfl rfl (by kernel_rfl) evI evR hs8 ?_
  intro r11 w12 hs13
  refine ⟨Xo, ?_⟩
  refine GoR.alloc rfl rfl (by kernel_rfl) (z := .map none) (by kernel_rfl) hs13 (cs := #[.map none]) (by kernel_rfl) ?_
  intro b14 w15 hs16
  refine ⟨Xo, ?_⟩
  refine GoR.store rfl rfl (by kernel_rfl) (b := b14) (off := 0) (v := .map (some r11)) (by kernel_rfl) (by kernel_rfl) (ti := Tryz.t101) (by kernel_rfl) hs16 0 rfl (by kernel_rfl) (by kernel_rfl) (Nat.le_of_ble_eq_true (by kernel_rfl)) (cs' := #[.map (some r11)]) (L' := (Cel b14 #[.map (some r11)] 101) :: (MapA evI evR r11 ([])) :: (Cel s4 #[vp q6 0, vp p5 0, .int .u64 0] 121) :: (Cel p5 (arrCells LastV.cells (List.replicate 8 dLast)) 129) :: (Cel q6 #[.map (some g7)] 127) :: (MapA Value.string Value.string g7 ([] : List (ByteArray × ByteArray))) :: (Cel b1 #[vp x 0] 62) :: (Cel x #[.slice al l.length cl, .slice ar row.length cr] 64) :: L) (by kernel_rfl) rfl ?_
  intro w17 hs18
  refine ⟨Xo, ?_⟩
  refine GoR.done (GoQ.thn (GoC.seq (GoC.seq ?_)))
  refine Xt (.rd 0 (.rd 1 (.rd 2 (.rd 3 (.rd 4 (.rd 5 .done)))))) ?_
  refine Xk [(0, .gen [vp x 0]), (1, .gen []), (2, .gen []), (3, .gen [.slice ar row.length cr]), (4, .gen []), (5, .gen [])] [(0, [.cell ⟨b1, 0, none⟩ (vp x 0)]), (3, [.cell ⟨x, 1, none⟩ (.slice ar row.length cr)])] [(17, .int .i64 0), (16, .int .i64 (row.length : Nat)), (15, .slice ar row.length cr), (5, vp b14 0), (4, vp s4 0), (3, .bool false), (2, .int .i64 0), (1, vp b1 0)] (ak (okc (hs18.cell 6 rfl (by kernel_rfl)) ok0) (ak (okc (hs18.cell 7 rfl (by kernel_rfl)) ok0) ak0)) ?_
  refine GoR.done (GoQ.thn (GoC.block ?_))
  have hs19 : St w0 ((Cel s4 #[vp q6 0, vp p5 0, .int .u64 0] 121) :: (Cel p5 (arrCells LastV.cells (List.replicate 8 dLast)) 129) :: (Cel q6 #[.map (some g7)] 127) :: (MapA Value.string Value.string g7 ([] : List (ByteArray × ByteArray))) :: (Cel b14 #[.map (some r11)] 101) :: (MapA evI evR r11 ([])) :: (Cel b1 #[vp x 0] 62) :: (Cel x #[.slice al l.length cl, .slice ar row.length cr] 64) :: L) w17 := ((((((((hs18.pull 7 rfl).pull 7 rfl).pull 3 rfl).pull 3 rfl).pull 7 rfl).pull 7 rfl).pull 7 rfl).pull 7 rfl)
  refine GoC.loop (T := Nat) (fun gg => [(1, vp b1 0), (2, .int .i64 0), (3, .bool false), (4, vp s4 0), (5, vp b14 0), (15, .slice ar row.length cr), (16, .int .i64 (row.length : Nat)), (17, .int .i64 (gg : Nat))]) (fun gg w => (gg ≤ row.length) ∧ St w0 ((Cel s4 #[vp q6 0, vp p5 0, .int .u64 (gg : Nat)] 121) :: (Cel p5 (arrCells LastV.cells ((trun (row.take gg)).1)) 129) :: (Cel q6 #[.map (some g7)] 127) :: (MapA Value.string Value.string g7 ((trun (row.take gg)).2)) :: (Cel b14 #[.map (some r11)] 101) :: (MapA evI evR r11 (repM row gg)) :: (Cel b1 #[vp x 0] 62) :: (Cel x #[.slice al l.length cl, .slice ar row.length cr] 64) :: L) w) (fun gg => row.length - gg) 0 [1, 2, 3, 4, 5, 15, 16, 17] (by kernel_rfl) ⟨Nat.zero_le _, hs19⟩ ?_
  rintro k w20 ⟨hp0, hs21⟩
  have hp : k ≤ row.length := hp0
  have hs22 : St w0 ((Cel s4 #[vp q6 0, vp p5 0, .int .u64 (k : Nat)] 121) :: (Cel p5 (arrCells LastV.cells ((trun (row.take k)).1)) 129) :: (Cel q6 #[.map (some g7)] 127) :: (MapA Value.string Value.string g7 ((trun (row.take k)).2)) :: (Cel b14 #[.map (some r11)] 101) :: (MapA evI evR r11 (repM row k)) :: (Cel b1 #[vp x 0] 62) :: (Cel x #[.slice al l.length cl, .slice ar row.length cr] 64) :: L) w20 := hs21
  refine GoC.slots (S' := [(1, vp b1 0), (2, .int .i64 0), (3, .bool false), (4, vp s4 0), (5, vp b14 0), (15, .slice ar row.length cr), (16, .int .i64 (row.length : Nat)), (17, .int .i64 (k : Nat))]) rfl ?_
  refine GoC.seq ?_
  refine Xt (.rd 0 .done) ?_
  refine Xk [(0, .gen [])] [] [(18, .bool (decide (((k : Nat) : Int) < (row.length : Nat)))), (1, vp b1 0), (2, .int .i64 0), (3, .bool false), (4, vp s4 0), (5, vp b14 0), (15, .slice ar row.length cr), (16, .int .i64 (row.length : Nat)), (17, .int .i64 (k : Nat))] ak0 ?_
  refine GoR.done (GoQ.thn (GoC.seq ?_))
  refine Xc (t := decide (((k : Nat) : Int) < (row.length : Nat))) (fun h23 => ?_) (fun h23 => ?_)
  · have h23' : ((k : Nat) : Int) < (row.length : Nat) := of_decide_eq_true h23
    have hk : k < row.length := by omega
    have hti := trun_inv (row.take k)
    obtain ⟨ab24, ao25, rfl⟩ := RowsAt.isSome (hr2 _ (hs22.drop 8)) (by omega)
    refine GoC.skip (GoQ.thn (GoC.seq (GoC.block (GoC.seq ?_))))
    refine Xt (.rd 0 (.rd 1 (.rd 2 (.ef 3 (.rd 4 (.ef 5 .done)))))) ?_
    refine Xk [(0, .gen []), (1, .as_ (vp ab24 (ao25 + (k * 40))) .at_), (2, .agg (ReqV.cells (row.getD k dReq)))] [(1, [.prop (0 ≤ ((k : Nat) : Int) ∧ ((k : Nat) : Int) < ((row.length : Nat) : Int)), .prop (Value.pointer (some (Addr.add ⟨ab24, ao25, none⟩ (Int.toNat (k : Nat) * 40))) = Value.pointer (some ⟨ab24, ao25 + (k * 40), none⟩))]), (2, [.prop (Array.size (ReqV.cells (row.getD k dReq)) = 40), .cells ⟨ab24, ao25 + (k * 40), none⟩ (ReqV.cells (row.getD k dReq))])] [(21, .agg (ReqV.cells (row.getD k dReq))), (19, .int .i64 (k : Nat)), (1, vp b1 0), (2, .int .i64 0), (3, .bool false), (4, vp s4 0), (5, vp b14 0), (15, vl ab24 ao25 row.length cr), (16, .int .i64 (row.length : Nat)), (17, .int .i64 (k : Nat))] (ak (okp (by omega) (okp (ptrAdd _ _ _) ok0)) (ak (okp (by kernel_rfl) (oka (RowsAt.all0 (hr2 _ (hs22.drop 8)) (by first | omega | (simp only [List.length_set]; omega) | (simp only [List.length_set, List.length_append, List.length_cons, List.length_nil]; omega)) (Nat.le_of_ble_eq_true (by kernel_rfl)) (by kernel_rfl)) ok0)) ak0)) ?_
    refine GoR.alloc rfl rfl (by kernel_rfl) (z := .agg (ReqV.cells dReq)) (by kernel_rfl) hs22 (cs := ReqV.cells dReq) (by kernel_rfl) ?_
    intro b26 w27 hs28
    refine ⟨Xo, ?_⟩
    refine Xk [(4, .gen [])] [] [(6, .int .i64 (k : Nat)), (7, vp b26 0), (21, .agg (ReqV.cells (row.getD k dReq))), (1, vp b1 0), (2, .int .i64 0), (3, .bool false), (4, vp s4 0), (5, vp b14 0), (15, vl ab24 ao25 row.length cr), (16, .int .i64 (row.length : Nat)), (17, .int .i64 (k : Nat))] ak0 ?_
    refine GoR.store rfl rfl (by kernel_rfl) (b := b26) (off := 0) (v := .agg (ReqV.cells (row.getD k dReq))) (by kernel_rfl) (by kernel_rfl) (ti := Tryz.t56) (by kernel_rfl) hs28 0 rfl (by kernel_rfl) (by kernel_rfl) (Nat.le_of_ble_eq_true (by kernel_rfl)) (cs' := ReqV.cells (row.getD k dReq)) (L' := (Cel b26 (ReqV.cells (row.getD k dReq)) 56) :: (Cel s4 #[vp q6 0, vp p5 0, .int .u64 (k : Nat)] 121) :: (Cel p5 (arrCells LastV.cells ((trun (row.take k)).1)) 129) :: (Cel q6 #[.map (some g7)] 127) :: (MapA Value.string Value.string g7 ((trun (row.take k)).2)) :: (Cel b14 #[.map (some r11)] 101) :: (MapA evI evR r11 (repM row k)) :: (Cel b1 #[vp x 0] 62) :: (Cel x #[.slice al l.length cl, vl ab24 ao25 row.length cr] 64) :: L) (by kernel_rfl) rfl ?_
    intro w29 hs30
    refine ⟨Xo, ?_⟩
    refine GoR.done (GoQ.thn (GoC.seq ?_))
    refine Xt (.rd 0 (.rd 1 (.ef 2 (.rd 3 (.rd 4 (.rd 5 (.ef 6 (.ef 7 (.rd 8 .done))))))))) ?_
    refine Xk [(0, .gen []), (1, .agg (ReqV.cells (row.getD k dReq)))] [(1, [.prop (Array.size (ReqV.cells (row.getD k dReq)) = 40), .cells ⟨b26, 0, none⟩ (ReqV.cells (row.getD k dReq))])] [(24, .agg (ReqV.cells (row.getD k dReq))), (23, vp s4 0), (6, .int .i64 (k : Nat)), (1, vp b1 0), (2, .int .i64 0), (3, .bool false), (4, vp s4 0), (5, vp b14 0), (15, vl ab24 ao25 row.length cr), (16, .int .i64 (row.length : Nat)), (17, .int .i64 (k : Nat))] (ak (okp (by kernel_rfl) (oka (hs30.cells 0 0 rfl (by kernel_rfl)) ok0)) ak0) ?_
    have hs31 : St w0 ((Cel s4 #[vp q6 0, vp p5 0, .int .u64 (k : Nat)] 121) :: (Cel p5 (arrCells LastV.cells ((trun (row.take k)).1)) 129) :: (Cel q6 #[.map (some g7)] 127) :: (MapA Value.string Value.string g7 ((trun (row.take k)).2)) :: (Cel b26 (ReqV.cells (row.getD k dReq)) 56) :: (Cel b14 #[.map (some r11)] 101) :: (MapA evI evR r11 (repM row k)) :: (Cel b1 #[vp x 0] 62) :: (Cel x #[.slice al l.length cl, vl ab24 ao25 row.length cr] 64) :: L) w29 := ((((hs30.pull 4 rfl).pull 4 rfl).pull 4 rfl).pull 4 rfl)
    refine Xa (f := 54) (args := #[vp s4 0, .agg (ReqV.cells (row.getD k dReq))]) Tryz.call54 (stDo_spec ((trun (row.take k)).1) ((trun (row.take k)).2) (row.getD k dReq) (k : Nat) hti.len hti.inv.short (fun w h => hL w (h.drop 5)) (hok _ (getD_mem hk)) (by omega) hs31) ?_
    rintro v33 w34 ⟨rfl, hs32⟩
    refine ⟨Xo, ?_⟩
    refine Xk [(3, .gen []), (4, .gen []), (5, .gen [])] [] [(27, .bool ((sdo ((trun (row.take k)).1) ((trun (row.take k)).2) (row.getD k dReq)).1.2)), (26, .agg (RepV.cells ((sdo ((trun (row.take k)).1) ((trun (row.take k)).2) (row.getD k dReq)).1.1))), (6, .int .i64 (k : Nat)), (1, vp b1 0), (2, .int .i64 0), (3, .bool false), (4, vp s4 0), (5, vp b14 0), (15, vl ab24 ao25 row.length cr), (16, .int .i64 (row.length : Nat)), (17, .int .i64 (k : Nat))] ak0 ?_
    refine GoR.alloc rfl rfl (by kernel_rfl) (z := .agg (RepV.cells ⟨0, ⟨#[]⟩⟩)) (by kernel_rfl) hs32 (cs := RepV.cells (⟨0, ⟨#[]⟩⟩ : RepV)) (by kernel_rfl) ?_
    intro b35 w36 hs37
    refine ⟨Xo, ?_⟩
    refine GoR.store rfl rfl (by kernel_rfl) (b := b35) (off := 0) (v := .agg (RepV.cells ((sdo ((trun (row.take k)).1) ((trun (row.take k)).2) (row.getD k dReq)).1.1))) (by kernel_rfl) (by kernel_rfl) (ti := Tryz.t51) (by kernel_rfl) hs37 0 rfl (by kernel_rfl) (by kernel_rfl) (Nat.le_of_ble_eq_true (by kernel_rfl)) (cs' := RepV.cells ((sdo ((trun (row.take k)).1) ((trun (row.take k)).2) (row.getD k dReq)).1.1)) (L' := (Cel b35 (RepV.cells ((sdo ((trun (row.take k)).1) ((trun (row.take k)).2) (row.getD k dReq)).1.1)) 51) :: (Cel s4 #[vp q6 0, vp p5 0, .int .u64 ((k : Nat) + 1)] 121) :: (Cel p5 (arrCells LastV.cells ((sdo ((trun (row.take k)).1) ((trun (row.take k)).2) (row.getD k dReq)).2.1)) 129) :: (Cel q6 #[.map (some g7)] 127) :: (MapA Value.string Value.string g7 ((sdo ((trun (row.take k)).1) ((trun (row.take k)).2) (row.getD k dReq)).2.2)) :: (Cel b26 (ReqV.cells (row.getD k dReq)) 56) :: (Cel b14 #[.map (some r11)] 101) :: (MapA evI evR r11 (repM row k)) :: (Cel b1 #[vp x 0] 62) :: (Cel x #[.slice al l.length cl, vl ab24 ao25 row.length cr] 64) :: L) (by kernel_rfl) rfl ?_
    intro w38 hs39
    refine ⟨Xo, ?_⟩
    refine Xk [(8, .gen [])] [] [(9, .bool ((sdo ((trun (row.take k)).1) ((trun (row.take k)).2) (row.getD k dReq)).1.2)), (8, vp b35 0), (6, .int .i64 (k : Nat)), (1, vp b1 0), (2, .int .i64 0), (3, .bool false), (4, vp s4 0), (5, vp b14 0), (15, vl ab24 ao25 row.length cr), (16, .int .i64 (row.length : Nat)), (17, .int .i64 (k : Nat))] ak0 ?_
    refine GoR.done (GoQ.thn (GoC.seq ?_))
    refine Xt (.rd 0 .done) ?_
    refine Xk [(0, .gen [])] [] [(28, .bool ((sdo ((trun (row.take k)).1) ((trun (row.take k)).2) (row.getD k dReq)).1.2)), (8, vp b35 0), (6, .int .i64 (k : Nat)), (1, vp b1 0), (2, .int .i64 0), (3, .bool false), (4, vp s4 0), (5, vp b14 0), (15, vl ab24 ao25 row.length cr), (16, .int .i64 (row.length : Nat)), (17, .int .i64 (k : Nat))] ak0 ?_
    refine GoR.done (GoQ.thn ?_)
    refine Xc (t := (sdo ((trun (row.take k)).1) ((trun (row.take k)).2) (row.getD k dReq)).1.2) (fun h40 => ?_) (fun h40 => ?_)
    · refine Xt (.rd 0 (.rd 1 (.rd 2 (.ef 3 .done)))) ?_
      refine Xk [(0, .gen [.map (some r11)]), (1, .gen []), (2, .agg (RepV.cells ((sdo ((trun (row.take k)).1) ((trun (row.take k)).2) (row.getD k dReq)).1.1)))] [(0, [.cell ⟨b14, 0, none⟩ (.map (some r11))]), (2, [.prop (Array.size (RepV.cells ((sdo ((trun (row.take k)).1) ((trun (row.take k)).2) (row.getD k dReq)).1.1)) = 2), .cells ⟨b35, 0, none⟩ (RepV.cells ((sdo ((trun (row.take k)).1) ((trun (row.take k)).2) (row.getD k dReq)).1.1))])] [(31, .agg (RepV.cells ((sdo ((trun (row.take k)).1) ((trun (row.take k)).2) (row.getD k dReq)).1.1))), (30, .int .i64 (k : Nat)), (29, .map (some r11)), (1, vp b1 0), (2, .int .i64 0), (3, .bool false), (4, vp s4 0), (5, vp b14 0), (15, vl ab24 ao25 row.length cr), (16, .int .i64 (row.length : Nat)), (17, .int .i64 (k : Nat))] (ak (okc (hs39.cell 6 rfl (by kernel_rfl)) ok0) (ak (okp (by kernel_rfl) (oka (hs39.cells 0 0 rfl (by kernel_rfl)) ok0)) ak0)) ?_
      refine GoR.mapUpdate rfl (by kernel_rfl) rpLaw (r := r11) (k := (k : Nat)) (v := (sdo ((trun (row.take k)).1) ((trun (row.take k)).2) (row.getD k dReq)).1.1) (by kernel_rfl) hs39 7 rfl ?_
      intro w41 hs42
      refine ⟨Xo, ?_⟩
      refine GoR.done (GoQ.blkN (GoQ.thn ?_))
      refine Xt (.rd 0 (.rd 1 .done)) ?_
      refine Xk [(0, .as_ (.int .i64 ((k : Nat) + 1)) (.gen [])), (1, .gen [])] [(0, [.prop (Value.int .i64 (IntKind.i64.wrap ((k : Nat) + 1)) = Value.int .i64 ((k : Nat) + 1))])] [(17, .int .i64 ((k : Nat) + 1)), (1, vp b1 0), (2, .int .i64 0), (3, .bool false), (4, vp s4 0), (5, vp b14 0), (15, vl ab24 ao25 row.length cr), (16, .int .i64 (row.length : Nat))] (ak (okp (i64ok (by omega) (by omega)) ok0) ak0) ?_
      refine GoR.done ?_
      have hs43 : St w0 ((Cel b35 (RepV.cells ((sdo ((trun (row.take k)).1) ((trun (row.take k)).2) (row.getD k dReq)).1.1)) 51) :: (Cel b26 (ReqV.cells (row.getD k dReq)) 56) :: (Cel s4 #[vp q6 0, vp p5 0, .int .u64 ((k : Nat) + 1)] 121) :: (Cel p5 (arrCells LastV.cells ((sdo ((trun (row.take k)).1) ((trun (row.take k)).2) (row.getD k dReq)).2.1)) 129) :: (Cel q6 #[.map (some g7)] 127) :: (MapA Value.string Value.string g7 ((sdo ((trun (row.take k)).1) ((trun (row.take k)).2) (row.getD k dReq)).2.2)) :: (Cel b14 #[.map (some r11)] 101) :: (MapA evI evR r11 (aset (repM row k) (k : Nat) ((sdo ((trun (row.take k)).1) ((trun (row.take k)).2) (row.getD k dReq)).1.1))) :: (Cel b1 #[vp x 0] 62) :: (Cel x #[.slice al l.length cl, vl ab24 ao25 row.length cr] 64) :: L) w41 := ((((((((((hs42.pull 9 rfl).pull 9 rfl).pull 2 rfl).pull 9 rfl).pull 8 rfl).pull 8 rfl).pull 8 rfl).pull 8 rfl).pull 9 rfl).pull 9 rfl)
      have hs44 : St w0 ((Cel s4 #[vp q6 0, vp p5 0, .int .u64 ((k : Nat) + 1)] 121) :: (Cel p5 (arrCells LastV.cells ((sdo ((trun (row.take k)).1) ((trun (row.take k)).2) (row.getD k dReq)).2.1)) 129) :: (Cel q6 #[.map (some g7)] 127) :: (MapA Value.string Value.string g7 ((sdo ((trun (row.take k)).1) ((trun (row.take k)).2) (row.getD k dReq)).2.2)) :: (Cel b14 #[.map (some r11)] 101) :: (MapA evI evR r11 (aset (repM row k) (k : Nat) ((sdo ((trun (row.take k)).1) ((trun (row.take k)).2) (row.getD k dReq)).1.1))) :: (Cel b1 #[vp x 0] 62) :: (Cel x #[.slice al l.length cl, vl ab24 ao25 row.length cr] 64) :: L) w41 := hs43.drop 2
      rw [← trun_fst (d := dReq) hk, ← trun_snd (d := dReq) hk] at hs44
      have he45 : repM row (k + 1) = aset (repM row k) ((k : Nat) : Int) (sdo (trun (row.take k)).1 (trun (row.take k)).2 (row.getD k dReq)).1.1 := if_pos h40
      rw [← he45] at hs44
      exact GoQ.back (k + 1) [1, 2, 3, 4, 5, 15, 16, 17] (by kernel_rfl) (by show row.length - (k + 1) < row.length - k; omega) ⟨(by omega), hs44⟩
    · refine GoC.skip (GoQ.blkN (GoQ.thn ?_))
      refine Xt (.rd 0 (.rd 1 .done)) ?_
      refine Xk [(0, .as_ (.int .i64 ((k : Nat) + 1)) (.gen [])), (1, .gen [])] [(0, [.prop (Value.int .i64 (IntKind.i64.wrap ((k : Nat) + 1)) = Value.int .i64 ((k : Nat) + 1))])] [(17, .int .i64 ((k : Nat) + 1)), (1, vp b1 0), (2, .int .i64 0), (3, .bool false), (4, vp s4 0), (5, vp b14 0), (15, vl ab24 ao25 row.length cr), (16, .int .i64 (row.length : Nat))] (ak (okp (i64ok (by omega) (by omega)) ok0) ak0) ?_
      refine GoR.done ?_
      have hs46 : St w0 ((Cel b35 (RepV.cells ((sdo ((trun (row.take k)).1) ((trun (row.take k)).2) (row.getD k dReq)).1.1)) 51) :: (Cel b26 (ReqV.cells (row.getD k dReq)) 56) :: (Cel s4 #[vp q6 0, vp p5 0, .int .u64 ((k : Nat) + 1)] 121) :: (Cel p5 (arrCells LastV.cells ((sdo ((trun (row.take k)).1) ((trun (row.take k)).2) (row.getD k dReq)).2.1)) 129) :: (Cel q6 #[.map (some g7)] 127) :: (MapA Value.string Value.string g7 ((sdo ((trun (row.take k)).1) ((trun (row.take k)).2) (row.getD k dReq)).2.2)) :: (Cel b14 #[.map (some r11)] 101) :: (MapA evI evR r11 (repM row k)) :: (Cel b1 #[vp x 0] 62) :: (Cel x #[.slice al l.length cl, vl ab24 ao25 row.length cr] 64) :: L) w38 := ((((((((((hs39.pull 9 rfl).pull 9 rfl).pull 9 rfl).pull 9 rfl).pull 8 rfl).pull 8 rfl).pull 8 rfl).pull 8 rfl).pull 9 rfl).pull 9 rfl)
      have hs47 : St w0 ((Cel s4 #[vp q6 0, vp p5 0, .int .u64 ((k : Nat) + 1)] 121) :: (Cel p5 (arrCells LastV.cells ((sdo ((trun (row.take k)).1) ((trun (row.take k)).2) (row.getD k dReq)).2.1)) 129) :: (Cel q6 #[.map (some g7)] 127) :: (MapA Value.string Value.string g7 ((sdo ((trun (row.take k)).1) ((trun (row.take k)).2) (row.getD k dReq)).2.2)) :: (Cel b14 #[.map (some r11)] 101) :: (MapA evI evR r11 (repM row k)) :: (Cel b1 #[vp x 0] 62) :: (Cel x #[.slice al l.length cl, vl ab24 ao25 row.length cr] 64) :: L) w38 := hs46.drop 2
      rw [← trun_fst (d := dReq) hk, ← trun_snd (d := dReq) hk] at hs47
      have he48 : repM row (k + 1) = repM row k := if_neg (ne_true_of_eq_false h40)
      rw [← he48] at hs47
      exact GoQ.back (k + 1) [1, 2, 3, 4, 5, 15, 16, 17] (by kernel_rfl) (by show row.length - (k + 1) < row.length - k; omega) ⟨(by omega), hs47⟩
  · have h23' : ¬ (((k : Nat) : Int) < (row.length : Nat)) := of_decide_eq_false h23
    have hke : k = row.length := by omega
    subst hke
    refine GoC.exit (GoQ.skipC (GoQ.skipL (GoQ.hit (GoQ.thn (GoC.seq ?_)))))
    refine Xt (.rd 0 (.rd 1 (.ef 2 (.rd 3 (.rd 4 (.rd 5 (.rd 6 .done))))))) ?_
    refine Xk [(0, .gen [vp x 0]), (1, .gen [])] [(0, [.cell ⟨b1, 0, none⟩ (vp x 0)])] [(34, .func (.func 55) #[] #[vp b14 0, vp b1 0]), (33, vp x 0), (2, .int .i64 0), (3, .bool false)] (ak (okc (hs22.cell 6 rfl (by kernel_rfl)) ok0) ak0) ?_
    have hs49 : St w0 ((Cel x #[.slice al l.length cl, .slice ar row.length cr] 64) :: (Cel b14 #[.map (some r11)] 101) :: (MapA evI evR r11 (repM row row.length)) :: (Cel b1 #[vp x 0] 62) :: (Cel s4 #[vp q6 0, vp p5 0, .int .u64 (row.length : Nat)] 121) :: (Cel p5 (arrCells LastV.cells ((trun (row.take row.length)).1)) 129) :: (Cel q6 #[.map (some g7)] 127) :: (MapA Value.string Value.string g7 ((trun (row.take row.length)).2)) :: L) w20 := ((((hs22.pull 6 rfl).pull 6 rfl).pull 6 rfl).pull 7 rfl)
    refine Xa (f := 42) (args := #[vp x 0, .func (.func 55) #[] #[vp b14 0, vp b1 0]]) Tryz.call42 (otCa_spec l row (repM row row.length) (by omega) (by omega) (fun w h => hr1 _ (h.drop 4)) (fun w h => hr2 _ (h.drop 4)) hs49) ?_
    rintro v51 w52 ⟨rfl, hs50⟩
    refine ⟨Xo, ?_⟩
    refine Xk [(3, .gen []), (4, .gen []), (5, .gen []), (6, .gen [])] [] [(3, .bool ((idx dCall l (othB (repM row row.length) row)).isSome)), (2, .int .i64 ((idx dCall l (othB (repM row row.length) row)).getD 0 : Nat))] ak0 ?_
    refine GoR.done (GoQ.thn (GoC.ret ?_))
    refine X2 (v := .int .i64 ((idx dCall l (othB (repM row row.length) row)).getD 0 : Nat)) (v' := .bool ((idx dCall l (othB (repM row row.length) row)).isSome)) ?_
    have hs53 : St w0 ((Cel b14 #[.map (some r11)] 101) :: (MapA evI evR r11 (repM row row.length)) :: (Cel b1 #[vp x 0] 62) :: (Cel s4 #[vp q6 0, vp p5 0, .int .u64 (row.length : Nat)] 121) :: (Cel p5 (arrCells LastV.cells ((trun (row.take row.length)).1)) 129) :: (Cel q6 #[.map (some g7)] 127) :: (MapA Value.string Value.string g7 ((trun (row.take row.length)).2)) :: (Cel x #[.slice al l.length cl, .slice ar row.length cr] 64) :: L) w52 := ((((((((hs50.pull 0 rfl).pull 7 rfl).pull 7 rfl).pull 7 rfl).pull 7 rfl).pull 7 rfl).pull 7 rfl).pull 7 rfl)
    have hs54 : St w0 ((Cel x #[.slice al l.length cl, .slice ar row.length cr] 64) :: L) w52 := hs53.drop 7
    exact ⟨rfl, hs54⟩
end Go.Proofs.YtbmmknchcdhefaaGreatDoor
