/-
  Package ledger: New, and what turns the map.
-/
import Derived.Test.YtbmmknchcdhefaaGreatDoorSxT
import Derived.Test.YtbmmknchcdhefaaGreatDoorProg
import Derived.Test.YtbmmknchcdhefaaGreatDoorLedA
namespace Go.Proofs.YtbmmknchcdhefaaGreatDoor
open Go.RowKit Go.Sx
set_option linter.unusedVariables false
set_option linter.unusedSimpArgs false
set_option linter.unnecessarySimpa false
set_option maxRecDepth 100000
theorem new_spec {w0 w : World} {L : List Asn} (hs : St w0 L w) : Calls Tryz.prog 63 #[] w (Ret fun rv w' => ∃ p r : Nat, rv = vp p 0 ∧ St w0 ((Cel p #[.map (some r)] 127) :: (MapA Value.string Value.string r ([] : List (ByteArray × ByteArray))) :: L) w') := by
  refine enter (args := []) Tryz.func63 rfl Tryz.ntmps63 (Nat.le_of_ble_eq_true (by kernel_rfl)) ?_
  refine GoC.slots (S' := []) rfl ?_
  refine GoC.seq ?_
  refine Xt (.rd 0 .done) ?_
  refine Xk [(0, .gen [])] [] [(0, .pointer none)] ak0 ?_
  refine GoR.done (GoQ.thn (GoC.seq ?_))
  refine Xt (.ef 0 (.rd 1 (.ef 2 (.rd 3 .done)))) ?_
  refine GoR.makeMap (α := ByteArray) (β := ByteArray) rfl rfl (by kernel_rfl) Value.string Value.string hs ?_
  intro r1 w2 hs3
  refine ⟨Xo, ?_⟩
  refine Xk [(1, .gen [])] [] [(2, .agg #[.map (some r1)]), (0, .pointer none)] ak0 ?_
  refine GoR.box rfl rfl (by kernel_rfl) (v := .agg #[.map (some r1)]) (by kernel_rfl) hs3 (cs := #[.map (some r1)]) (by kernel_rfl) ?_
  intro b4 w5 hs6
  refine ⟨Xo, ?_⟩
  refine Xk [(3, .gen [])] [] [(0, vp b4 0)] ak0 ?_
  refine GoR.done (GoQ.thn (GoC.ret ?_))
  refine X1 (v := vp b4 0) ?_
  exact ⟨_, _, rfl, hs6⟩
def full (m : List (ByteArray × ByteArray)) (key : ByteArray) : Bool :=
  if (!((aget m key).isSome)) = true then
    (decide (((m.length : Nat) : Int) ≥ 64))
  else
    false
theorem full_spec {w0 w : World} {L : List Asn} {p r : Nat} (m : List (ByteArray × ByteArray)) (key : ByteArray) (hs : St w0 ((Cel p #[.map (some r)] 127) :: (MapA Value.string Value.string r m) :: L) w) : Calls Tryz.prog 88 #[vp p 0, .string key] w (Ret fun rv w' => rv = .bool (full m key) ∧ St w0 ((Cel p #[.map (some r)] 127) :: (MapA Value.string Value.string r m) :: L) w') := by
  refine enter (args := [vp p 0, .string key]) Tryz.func88 rfl Tryz.ntmps88 (Nat.le_of_ble_eq_true (by kernel_rfl)) ?_
  refine GoC.slots (S' := [(0, vp p 0), (1, .string key)]) rfl ?_
  refine GoC.seq ?_
  refine Xt (.rd 0 .done) ?_
  refine Xk [(0, .gen [])] [] [(4, .bool false), (0, vp p 0), (1, .string key)] ak0 ?_
  refine GoR.done (GoQ.thn (GoC.seq ?_))
  refine Xt (.rd 0 (.rd 1 (.rd 2 (.rd 3 (.rd 4 (.rd 5 (.rd 6 (.rd 7 (.rd 8 (.rd 9 (.rd 10 .done))))))))))) ?_
  refine Xk [(0, .gen []), (1, .gen []), (2, .gen []), (3, .gen [.map (some r)]), (4, .gen [])] [(3, [.cell ⟨p, 0, none⟩ (.map (some r))])] [(12, .string key), (11, .map (some r)), (4, .bool false), (0, vp p 0)] (ak (okc (hs.cell 0 rfl (by kernel_rfl)) ok0) ak0) ?_
  refine GoR.lookup rfl (by kernel_rfl) mapLaw (r := r) (k := key) (ok := true) (by kernel_rfl) hs 1 rfl (z := Value.string (⟨#[]⟩ : ByteArray)) (by kernel_rfl) (v := .tuple #[.string ((aget m key).getD (⟨#[]⟩ : ByteArray)), .bool ((aget m key).isSome)]) (lookOk _ _ _) ?_
  refine Xk [(6, .gen []), (7, .gen []), (8, .gen []), (9, .gen []), (10, .gen [])] [] [(6, .bool ((aget m key).isSome)), (4, .bool false), (0, vp p 0)] ak0 ?_
  refine GoR.done (GoQ.thn (GoC.seq ?_))
  refine Xt (.rd 0 (.rd 1 (.rd 2 (.rd 3 (.rd 4 (.rd 5 (.rd 6 (.rd 7 (.rd 8 (.rd 9 (.rd 10 .done))))))))))) ?_
  refine Xk [(0, .gen []), (1, .gen []), (2, .gen [])] [] [(18, .bool (!((aget m key).isSome))), (4, .bool false), (0, vp p 0)] ak0 ?_
  rcases Bool.eq_false_or_eq_true (!((aget m key).isSome)) with h1 | h1
  · refine Xs 18 true h1 ?_
    have h1n : ((aget m key).isSome) = false := notT h1
    refine Xk [(3, .gen []), (4, .gen []), (5, .gen []), (6, .gen [.map (some r)])] [(6, [.cell ⟨p, 0, none⟩ (.map (some r))])] [(22, .map (some r)), (18, .bool true), (4, .bool false)] (ak (okc (hs.cell 0 rfl (by kernel_rfl)) ok0) ak0) ?_
    refine GoR.mapLen rfl (by kernel_rfl) (T := 125) (K := 9) (E := 9) (by kernel_rfl) (r := r) (by kernel_rfl) hs 1 rfl ?_
    refine Xk [(8, .gen []), (9, .gen []), (10, .gen [])] [] [(4, .bool (decide (((m.length : Nat) : Int) ≥ 64)))] ak0 ?_
    refine GoR.done (GoQ.thn (GoC.ret ?_))
    refine X1 (v := .bool (decide (((m.length : Nat) : Int) ≥ 64))) ?_
    have hr : full m key = (decide (((m.length : Nat) : Int) ≥ 64)) := by rw [full, if_pos h1]
    exact ⟨by first | (rw [hr]; done) | (rw [hr]; rfl), by first | exact hs.drop2 0 | (rw [hr]; exact hs.drop2 0)⟩
  · refine Xs 18 false h1 ?_
    have h1n : ((aget m key).isSome) = true := notF h1
    refine Xk [(3, .gen []), (4, .gen []), (5, .gen []), (6, .gen []), (7, .gen []), (8, .gen []), (9, .gen []), (10, .gen [])] [] [(4, .bool false)] ak0 ?_
    refine GoR.done (GoQ.thn (GoC.ret ?_))
    refine X1 (v := .bool false) ?_
    have hr : full m key = false := by rw [full, if_neg (ne_true_of_eq_false h1)]
    exact ⟨by first | (rw [hr]; done) | (rw [hr]; rfl), by first | exact hs.drop2 0 | (rw [hr]; exact hs.drop2 0)⟩
def lget (m : List (ByteArray × ByteArray)) (o : OpV) (was : ByteArray) : (RepV) × List (ByteArray × ByteArray) :=
  ((⟨0, was⟩ : RepV), m)
theorem lget_spec {w0 w : World} {L : List Asn} {p r : Nat} (m : List (ByteArray × ByteArray)) (o : OpV) (was : ByteArray) (hs : St w0 ((Cel p #[.map (some r)] 127) :: (MapA Value.string Value.string r m) :: L) w) : Calls Tryz.prog 83 #[vp p 0, .agg (OpV.cells o), .string was] w (Ret fun rv w' => rv = .agg (RepV.cells ((lget m o was).1)) ∧ St w0 ((Cel p #[.map (some r)] 127) :: (MapA Value.string Value.string r ((lget m o was).2)) :: L) w') := by
  refine enter (args := [vp p 0, .agg (OpV.cells o), .string was]) Tryz.func83 rfl Tryz.ntmps83 (Nat.le_of_ble_eq_true (by kernel_rfl)) ?_
  refine GoC.slots (S' := [(0, vp p 0), (1, .agg (OpV.cells o)), (2, .string was)]) rfl ?_
  refine GoC.seq ?_
  refine Xt (.ef 0 (.ef 1 .done)) ?_
  refine GoR.box rfl rfl (by kernel_rfl) (v := .agg (OpV.cells o)) (by kernel_rfl) hs (cs := OpV.cells o) (by kernel_rfl) ?_
  intro b1 w2 hs3
  refine ⟨Xo, ?_⟩
  refine GoR.alloc rfl rfl (by kernel_rfl) (z := .agg #[.int .i64 0, .string (⟨#[]⟩ : ByteArray)]) (by kernel_rfl) hs3 (cs := #[.int .i64 0, .string (⟨#[]⟩ : ByteArray)]) (by kernel_rfl) ?_
  intro b4 w5 hs6
  refine ⟨Xo, ?_⟩
  refine GoR.done (GoQ.thn (GoC.seq ?_))
  refine Xt (.rd 0 (.rd 1 (.ef 2 .done))) ?_
  refine Xk [(0, .gen []), (1, .gen [])] [] [(8, .agg #[.int .i64 0, .string was]), (6, vp b4 0)] ak0 ?_
  refine GoR.store rfl rfl (by kernel_rfl) (b := b4) (off := 0) (v := .agg #[.int .i64 0, .string was]) (by kernel_rfl) (by kernel_rfl) (ti := Tryz.t51) (by kernel_rfl) hs6 0 rfl (by kernel_rfl) (by kernel_rfl) (Nat.le_of_ble_eq_true (by kernel_rfl)) (cs' := #[.int .i64 0, .string was]) (L' := (Cel b4 #[.int .i64 0, .string was] 51) :: (Cel b1 (OpV.cells o) 44) :: (Cel p #[.map (some r)] 127) :: (MapA Value.string Value.string r m) :: L) (by kernel_rfl) rfl ?_
  intro w7 hs8
  refine ⟨Xo, ?_⟩
  refine GoR.done (GoQ.thn (GoC.ret ?_))
  refine GoQ.done (.inl rfl) (v := .agg #[.int .i64 0, .string was]) (fun a hf => resultsA rfl (by kernel_rfl) (ti := Tryz.t51) (by kernel_rfl) (by kernel_rfl) (vs := #[.int .i64 0, .string was]) (by kernel_rfl) (hs8.cells 0 0 rfl (by kernel_rfl)) a hf) ?_
  have hs9 : St w0 ((Cel p #[.map (some r)] 127) :: (MapA Value.string Value.string r m) :: (Cel b4 #[.int .i64 0, .string was] 51) :: (Cel b1 (OpV.cells o) 44) :: L) w7 := ((hs8.pull 3 rfl).pull 3 rfl)
  have hr : lget m o was = ((⟨0, was⟩ : RepV), m) := by rw [lget]
  exact ⟨by first | (rw [hr]; done) | (rw [hr]; rfl), by first | exact hs9.drop2 2 | (rw [hr]; exact hs9.drop2 2)⟩
def lput (m : List (ByteArray × ByteArray)) (o : OpV) (was : ByteArray) : (RepV) × List (ByteArray × ByteArray) :=
  if (full m o.key) = true then
    ((failed 7 (⟨#[]⟩ : ByteArray)), m)
  else
    ((⟨0, (⟨#[]⟩ : ByteArray)⟩ : RepV), aset m o.key o.value)
theorem lput_spec {w0 w : World} {L : List Asn} {p r : Nat} (m : List (ByteArray × ByteArray)) (o : OpV) (was : ByteArray) (hs : St w0 ((Cel p #[.map (some r)] 127) :: (MapA Value.string Value.string r m) :: L) w) : Calls Tryz.prog 84 #[vp p 0, .agg (OpV.cells o), .string was] w (Ret fun rv w' => rv = .agg (RepV.cells ((lput m o was).1)) ∧ St w0 ((Cel p #[.map (some r)] 127) :: (MapA Value.string Value.string r ((lput m o was).2)) :: L) w') := by
  refine enter (args := [vp p 0, .agg (OpV.cells o), .string was]) Tryz.func84 rfl Tryz.ntmps84 (Nat.le_of_ble_eq_true (by kernel_rfl)) ?_
  refine GoC.slots (S' := [(0, vp p 0), (1, .agg (OpV.cells o)), (2, .string was)]) rfl ?_
  refine GoC.seq ?_
  refine Xt (.ef 0 (.ef 1 .done)) ?_
  refine GoR.box rfl rfl (by kernel_rfl) (v := .agg (OpV.cells o)) (by kernel_rfl) hs (cs := OpV.cells o) (by kernel_rfl) ?_
  intro b1 w2 hs3
  refine ⟨Xo, ?_⟩
  refine GoR.alloc rfl rfl (by kernel_rfl) (z := .agg #[.int .i64 0, .string (⟨#[]⟩ : ByteArray)]) (by kernel_rfl) hs3 (cs := #[.int .i64 0, .string (⟨#[]⟩ : ByteArray)]) (by kernel_rfl) ?_
  intro b4 w5 hs6
  refine ⟨Xo, ?_⟩
  refine GoR.done (GoQ.thn (GoC.seq (GoC.seq ?_)))
  refine Xt (.rd 0 (.rd 1 (.rd 2 (.ef 3 .done)))) ?_
  refine Xk [(0, .gen []), (1, .gen []), (2, .gen [.string o.key])] [(2, [.cell ⟨b1, 1, none⟩ (.string o.key)])] [(9, .string o.key), (7, vp p 0), (6, vp b4 0), (4, vp b1 0), (0, vp p 0)] (ak (okc (hs6.cell 1 rfl (by kernel_rfl)) ok0) ak0) ?_
  have hs7 : St w0 ((Cel p #[.map (some r)] 127) :: (MapA Value.string Value.string r m) :: (Cel b4 #[.int .i64 0, .string (⟨#[]⟩ : ByteArray)] 51) :: (Cel b1 (OpV.cells o) 44) :: L) w5 := ((hs6.pull 3 rfl).pull 3 rfl)
  refine Xa (f := 88) (args := #[vp p 0, .string o.key]) Tryz.call88 (full_spec m o.key  hs7) ?_
  rintro v9 w10 ⟨rfl, hs8⟩
  refine ⟨Xo, ?_⟩
  refine GoR.done (GoQ.thn ?_)
  refine Xc (t := full m o.key) (fun h11 => ?_) (fun h11 => ?_)
  · refine GoC.seq ?_
    refine Xt (.ef 0 (.ef 1 .done)) ?_
    refine Xa (f := 74) (args := #[.int .i64 7, .string (⟨#[]⟩ : ByteArray)]) Tryz.call74 (failed_spec 7 (⟨#[]⟩ : ByteArray)  hs8) ?_
    rintro v13 w14 ⟨rfl, hs12⟩
    refine ⟨Xo, ?_⟩
    refine GoR.store rfl rfl (by kernel_rfl) (b := b4) (off := 0) (v := .agg (RepV.cells (failed 7 (⟨#[]⟩ : ByteArray)))) (by kernel_rfl) (by kernel_rfl) (ti := Tryz.t51) (by kernel_rfl) hs12 2 rfl (by kernel_rfl) (by kernel_rfl) (Nat.le_of_ble_eq_true (by kernel_rfl)) (cs' := RepV.cells (failed 7 (⟨#[]⟩ : ByteArray))) (L' := (Cel p #[.map (some r)] 127) :: (MapA Value.string Value.string r m) :: (Cel b4 (RepV.cells (failed 7 (⟨#[]⟩ : ByteArray))) 51) :: (Cel b1 (OpV.cells o) 44) :: L) (by kernel_rfl) rfl ?_
    intro w15 hs16
    refine ⟨Xo, ?_⟩
    refine GoR.done (GoQ.thn (GoC.ret (GoQ.skipCR ?_)))
    refine GoQ.done (.inl rfl) (v := .agg (RepV.cells (failed 7 (⟨#[]⟩ : ByteArray)))) (fun a hf => resultsA rfl (by kernel_rfl) (ti := Tryz.t51) (by kernel_rfl) (by kernel_rfl) (vs := (RepV.cells (failed 7 (⟨#[]⟩ : ByteArray)))) (by kernel_rfl) (hs16.cells 2 0 rfl (by kernel_rfl)) a hf) ?_
    have hr : lput m o was = ((failed 7 (⟨#[]⟩ : ByteArray)), m) := by rw [lput, if_pos h11]
    exact ⟨by first | (rw [hr]; done) | (rw [hr]; rfl), by first | exact hs16.drop2 2 | (rw [hr]; exact hs16.drop2 2)⟩
  · refine GoC.skip (GoQ.thn (GoC.seq ?_))
    refine GoC.regD [0, 1, 3, 7, 0, 16, 0, 64, 255] (.rd 0 (.rd 1 (.rd 2 (.rd 3 (.rd 4 (.rd 5 (.rd 6 (.rd 7 (.ef 8 .done))))))))) (by kernel_rfl) (by kernel_rfl) noPan_body (by kernel_rfl) hs8 ?_
    intro w17 hs18 hw19
    refine Xk [(0, .gen []), (1, .gen []), (2, .gen []), (3, .gen [.map (some r)]), (4, .gen []), (5, .gen [.string o.key]), (6, .gen []), (7, .gen [.string o.value])] [(3, [.cell ⟨p, 0, none⟩ (.map (some r))]), (5, [.cell ⟨b1, 1, none⟩ (.string o.key)]), (7, [.cell ⟨b1, 2, none⟩ (.string o.value)])] [(19, .string o.value), (17, .string o.key), (15, .map (some r)), (6, vp b4 0)] (ak (okc (hs18.cell 0 rfl (by kernel_rfl)) ok0) (ak (okc (hs18.cell 3 rfl (by kernel_rfl)) ok0) (ak (okc (hs18.cell 3 rfl (by kernel_rfl)) ok0) ak0))) ?_
    refine GoR.mapUpdate rfl (by kernel_rfl) mapLaw (r := r) (k := o.key) (v := o.value) (by kernel_rfl) hs18 1 rfl ?_
    intro w20 hs21
    refine ⟨Xo, ?_⟩
    refine GoR.done (GoQ.thn (GoC.seq ?_))
    refine Xt (.rd 0 (.ef 1 .done)) ?_
    refine Xk [(0, .gen [])] [] [(20, .agg #[.int .i64 0, .string (⟨#[]⟩ : ByteArray)]), (6, vp b4 0)] ak0 ?_
    refine GoR.store rfl rfl (by kernel_rfl) (b := b4) (off := 0) (v := .agg #[.int .i64 0, .string (⟨#[]⟩ : ByteArray)]) (by kernel_rfl) (by kernel_rfl) (ti := Tryz.t51) (by kernel_rfl) hs21 2 rfl (by kernel_rfl) (by kernel_rfl) (Nat.le_of_ble_eq_true (by kernel_rfl)) (cs' := #[.int .i64 0, .string (⟨#[]⟩ : ByteArray)]) (L' := (MapA Value.string Value.string r (aset m o.key o.value)) :: (Cel p #[.map (some r)] 127) :: (Cel b4 #[.int .i64 0, .string (⟨#[]⟩ : ByteArray)] 51) :: (Cel b1 (OpV.cells o) 44) :: L) (by kernel_rfl) rfl ?_
    intro w22 hs23
    refine ⟨Xo, ?_⟩
    refine GoR.done (GoQ.thn (GoC.ret ?_))
    refine GoQ.done (.inl rfl) (v := .agg #[.int .i64 0, .string (⟨#[]⟩ : ByteArray)]) (fun a hf => resultsA rfl (by kernel_rfl) (ti := Tryz.t51) (by kernel_rfl) (by kernel_rfl) (vs := #[.int .i64 0, .string (⟨#[]⟩ : ByteArray)]) (by kernel_rfl) (hs23.cells 2 0 rfl (by kernel_rfl)) a hf) ?_
    have hs24 : St w0 ((Cel p #[.map (some r)] 127) :: (MapA Value.string Value.string r (aset m o.key o.value)) :: (Cel b4 #[.int .i64 0, .string (⟨#[]⟩ : ByteArray)] 51) :: (Cel b1 (OpV.cells o) 44) :: L) w22 := ((hs23.pull 0 rfl).pull 1 rfl)
    have hr : lput m o was = ((⟨0, (⟨#[]⟩ : ByteArray)⟩ : RepV), aset m o.key o.value) := by rw [lput, if_neg (ne_true_of_eq_false h11)]
    exact ⟨by first | (rw [hr]; done) | (rw [hr]; rfl), by first | exact hs24.drop2 2 | (rw [hr]; exact hs24.drop2 2)⟩
def ldrop (m : List (ByteArray × ByteArray)) (o : OpV) (was : ByteArray) : (RepV) × List (ByteArray × ByteArray) :=
  ((⟨0, was⟩ : RepV), adel m o.key)
theorem ldrop_spec {w0 w : World} {L : List Asn} {p r : Nat} (m : List (ByteArray × ByteArray)) (o : OpV) (was : ByteArray) (hs : St w0 ((Cel p #[.map (some r)] 127) :: (MapA Value.string Value.string r m) :: L) w) : Calls Tryz.prog 85 #[vp p 0, .agg (OpV.cells o), .string was] w (Ret fun rv w' => rv = .agg (RepV.cells ((ldrop m o was).1)) ∧ St w0 ((Cel p #[.map (some r)] 127) :: (MapA Value.string Value.string r ((ldrop m o was).2)) :: L) w') := by
  refine enter (args := [vp p 0, .agg (OpV.cells o), .string was]) Tryz.func85 rfl Tryz.ntmps85 (Nat.le_of_ble_eq_true (by kernel_rfl)) ?_
  refine GoC.slots (S' := [(0, vp p 0), (1, .agg (OpV.cells o)), (2, .string was)]) rfl ?_
  refine GoC.seq ?_
  refine Xt (.ef 0 (.ef 1 .done)) ?_
  refine GoR.box rfl rfl (by kernel_rfl) (v := .agg (OpV.cells o)) (by kernel_rfl) hs (cs := OpV.cells o) (by kernel_rfl) ?_
  intro b1 w2 hs3
  refine ⟨Xo, ?_⟩
  refine GoR.alloc rfl rfl (by kernel_rfl) (z := .agg #[.int .i64 0, .string (⟨#[]⟩ : ByteArray)]) (by kernel_rfl) hs3 (cs := #[.int .i64 0, .string (⟨#[]⟩ : ByteArray)]) (by kernel_rfl) ?_
  intro b4 w5 hs6
  refine ⟨Xo, ?_⟩
  refine GoR.done (GoQ.thn (GoC.seq ?_))
  refine GoC.regD [0, 1, 3, 7, 0, 16, 63] (.rd 0 (.rd 1 (.rd 2 (.rd 3 (.rd 4 (.rd 5 (.ef 6 .done))))))) (by kernel_rfl) (by kernel_rfl) noPan_body (by kernel_rfl) hs6 ?_
  intro w7 hs8 hw9
  refine Xk [(0, .gen []), (1, .gen []), (2, .gen []), (3, .gen [.map (some r)]), (4, .gen []), (5, .gen [.string o.key])] [(3, [.cell ⟨p, 0, none⟩ (.map (some r))]), (5, [.cell ⟨b1, 1, none⟩ (.string o.key)])] [(12, .string o.key), (10, .map (some r)), (6, vp b4 0), (2, .string was)] (ak (okc (hs8.cell 2 rfl (by kernel_rfl)) ok0) (ak (okc (hs8.cell 1 rfl (by kernel_rfl)) ok0) ak0)) ?_
  refine GoR.delete rfl (by kernel_rfl) mapLaw (t2 := 9) (r := r) (k := o.key) (by kernel_rfl) (⟨#[]⟩ : ByteArray) hs8 3 rfl ?_
  intro w10 hs11
  refine ⟨Xo, ?_⟩
  refine GoR.done (GoQ.thn (GoC.seq ?_))
  refine Xt (.rd 0 (.rd 1 (.ef 2 .done))) ?_
  refine Xk [(0, .gen []), (1, .gen [])] [] [(14, .agg #[.int .i64 0, .string was]), (6, vp b4 0)] ak0 ?_
  refine GoR.store rfl rfl (by kernel_rfl) (b := b4) (off := 0) (v := .agg #[.int .i64 0, .string was]) (by kernel_rfl) (by kernel_rfl) (ti := Tryz.t51) (by kernel_rfl) hs11 1 rfl (by kernel_rfl) (by kernel_rfl) (Nat.le_of_ble_eq_true (by kernel_rfl)) (cs' := #[.int .i64 0, .string was]) (L' := (MapA Value.string Value.string r (adel m o.key)) :: (Cel b4 #[.int .i64 0, .string was] 51) :: (Cel b1 (OpV.cells o) 44) :: (Cel p #[.map (some r)] 127) :: L) (by kernel_rfl) rfl ?_
  intro w12 hs13
  refine ⟨Xo, ?_⟩
  refine GoR.done (GoQ.thn (GoC.ret ?_))
  refine GoQ.done (.inl rfl) (v := .agg #[.int .i64 0, .string was]) (fun a hf => resultsA rfl (by kernel_rfl) (ti := Tryz.t51) (by kernel_rfl) (by kernel_rfl) (vs := #[.int .i64 0, .string was]) (by kernel_rfl) (hs13.cells 1 0 rfl (by kernel_rfl)) a hf) ?_
  have hs14 : St w0 ((Cel p #[.map (some r)] 127) :: (MapA Value.string Value.string r (adel m o.key)) :: (Cel b4 #[.int .i64 0, .string was] 51) :: (Cel b1 (OpV.cells o) 44) :: L) w12 := ((hs13.pull 0 rfl).pull 3 rfl)
  have hr : ldrop m o was = ((⟨0, was⟩ : RepV), adel m o.key) := by rw [ldrop]
  exact ⟨by first | (rw [hr]; done) | (rw [hr]; rfl), by first | exact hs14.drop2 2 | (rw [hr]; exact hs14.drop2 2)⟩
def lswap (m : List (ByteArray × ByteArray)) (o : OpV) (was : ByteArray) : (RepV) × List (ByteArray × ByteArray) :=
  if (!(decide (was = o.old))) = true then
    ((failed 15 was), m)
  else
    ((⟨0, (⟨#[]⟩ : ByteArray)⟩ : RepV), aset m o.key o.value)
theorem lswap_spec {w0 w : World} {L : List Asn} {p r : Nat} (m : List (ByteArray × ByteArray)) (o : OpV) (was : ByteArray) (hs : St w0 ((Cel p #[.map (some r)] 127) :: (MapA Value.string Value.string r m) :: L) w) : Calls Tryz.prog 86 #[vp p 0, .agg (OpV.cells o), .string was] w (Ret fun rv w' => rv = .agg (RepV.cells ((lswap m o was).1)) ∧ St w0 ((Cel p #[.map (some r)] 127) :: (MapA Value.string Value.string r ((lswap m o was).2)) :: L) w') := by
  refine enter (args := [vp p 0, .agg (OpV.cells o), .string was]) Tryz.func86 rfl Tryz.ntmps86 (Nat.le_of_ble_eq_true (by kernel_rfl)) ?_
  refine GoC.slots (S' := [(0, vp p 0), (1, .agg (OpV.cells o)), (2, .string was)]) rfl ?_
  refine GoC.seq ?_
  refine Xt (.ef 0 (.ef 1 .done)) ?_
  refine GoR.box rfl rfl (by kernel_rfl) (v := .agg (OpV.cells o)) (by kernel_rfl) hs (cs := OpV.cells o) (by kernel_rfl) ?_
  intro b1 w2 hs3
  refine ⟨Xo, ?_⟩
  refine GoR.alloc rfl rfl (by kernel_rfl) (z := .agg #[.int .i64 0, .string (⟨#[]⟩ : ByteArray)]) (by kernel_rfl) hs3 (cs := #[.int .i64 0, .string (⟨#[]⟩ : ByteArray)]) (by kernel_rfl) ?_
  intro b4 w5 hs6
  refine ⟨Xo, ?_⟩
  refine GoR.done (GoQ.thn (GoC.seq (GoC.seq ?_)))
  refine Xt (.rd 0 (.rd 1 (.rd 2 (.rd 3 .done)))) ?_
  refine Xk [(0, .gen []), (1, .gen []), (2, .gen [.string o.old]), (3, .as_ (.bool (!(decide (was = o.old)))) (.gen []))] [(2, [.cell ⟨b1, 3, none⟩ (.string o.old)]), (3, [.prop (Value.bool (!(was.toList == o.old.toList)) = Value.bool (!(decide (was = o.old))))])] [(10, .bool (!(decide (was = o.old)))), (6, vp b4 0), (4, vp b1 0), (0, vp p 0), (2, .string was)] (ak (okc (hs6.cell 1 rfl (by kernel_rfl)) ok0) (ak (okp (sne _ _) ok0) ak0)) ?_
  refine GoR.done (GoQ.thn ?_)
  refine Xc (t := !(decide (was = o.old))) (fun h7 => ?_) (fun h7 => ?_)
  · have h7n : (decide (was = o.old)) = false := notT h7
    have h7n' : ¬ (was = o.old) := of_decide_eq_false h7n
    refine GoC.seq ?_
    refine Xt (.rd 0 (.ef 1 (.ef 2 .done))) ?_
    refine Xk [(0, .gen [])] [] [(11, .string was), (6, vp b4 0), (4, vp b1 0), (0, vp p 0)] ak0 ?_
    refine Xa (f := 74) (args := #[.int .i64 15, .string was]) Tryz.call74 (failed_spec 15 was  hs6) ?_
    rintro v9 w10 ⟨rfl, hs8⟩
    refine ⟨Xo, ?_⟩
    refine GoR.store rfl rfl (by kernel_rfl) (b := b4) (off := 0) (v := .agg (RepV.cells (failed 15 was))) (by kernel_rfl) (by kernel_rfl) (ti := Tryz.t51) (by kernel_rfl) hs8 0 rfl (by kernel_rfl) (by kernel_rfl) (Nat.le_of_ble_eq_true (by kernel_rfl)) (cs' := RepV.cells (failed 15 was)) (L' := (Cel b4 (RepV.cells (failed 15 was)) 51) :: (Cel b1 (OpV.cells o) 44) :: (Cel p #[.map (some r)] 127) :: (MapA Value.string Value.string r m) :: L) (by kernel_rfl) rfl ?_
    intro w11 hs12
    refine ⟨Xo, ?_⟩
    refine GoR.done (GoQ.thn (GoC.ret (GoQ.skipCR ?_)))
    refine GoQ.done (.inl rfl) (v := .agg (RepV.cells (failed 15 was))) (fun a hf => resultsA rfl (by kernel_rfl) (ti := Tryz.t51) (by kernel_rfl) (by kernel_rfl) (vs := (RepV.cells (failed 15 was))) (by kernel_rfl) (hs12.cells 0 0 rfl (by kernel_rfl)) a hf) ?_
    have hs13 : St w0 ((Cel p #[.map (some r)] 127) :: (MapA Value.string Value.string r m) :: (Cel b4 (RepV.cells (failed 15 was)) 51) :: (Cel b1 (OpV.cells o) 44) :: L) w11 := ((hs12.pull 3 rfl).pull 3 rfl)
    have hr : lswap m o was = ((failed 15 was), m) := by rw [lswap, if_pos h7]
    exact ⟨by first | (rw [hr]; done) | (rw [hr]; rfl), by first | exact hs13.drop2 2 | (rw [hr]; exact hs13.drop2 2)⟩
  · have h7n : (decide (was = o.old)) = true := notF h7
    have h7n' : was = o.old := of_decide_eq_true h7n
    refine GoC.skip (GoQ.thn (GoC.seq ?_))
    refine GoC.regD [0, 1, 3, 7, 0, 16, 0, 64, 255] (.rd 0 (.rd 1 (.rd 2 (.rd 3 (.rd 4 (.rd 5 (.rd 6 (.rd 7 (.ef 8 .done))))))))) (by kernel_rfl) (by kernel_rfl) noPan_body (by kernel_rfl) hs6 ?_
    intro w14 hs15 hw16
    refine Xk [(0, .gen []), (1, .gen []), (2, .gen []), (3, .gen [.map (some r)]), (4, .gen []), (5, .gen [.string o.key]), (6, .gen []), (7, .gen [.string o.value])] [(3, [.cell ⟨p, 0, none⟩ (.map (some r))]), (5, [.cell ⟨b1, 1, none⟩ (.string o.key)]), (7, [.cell ⟨b1, 2, none⟩ (.string o.value)])] [(20, .string o.value), (18, .string o.key), (16, .map (some r)), (6, vp b4 0)] (ak (okc (hs15.cell 2 rfl (by kernel_rfl)) ok0) (ak (okc (hs15.cell 1 rfl (by kernel_rfl)) ok0) (ak (okc (hs15.cell 1 rfl (by kernel_rfl)) ok0) ak0))) ?_
    refine GoR.mapUpdate rfl (by kernel_rfl) mapLaw (r := r) (k := o.key) (v := o.value) (by kernel_rfl) hs15 3 rfl ?_
    intro w17 hs18
    refine ⟨Xo, ?_⟩
    refine GoR.done (GoQ.thn (GoC.seq ?_))
    refine Xt (.rd 0 (.ef 1 .done)) ?_
    refine Xk [(0, .gen [])] [] [(21, .agg #[.int .i64 0, .string (⟨#[]⟩ : ByteArray)]), (6, vp b4 0)] ak0 ?_
    refine GoR.store rfl rfl (by kernel_rfl) (b := b4) (off := 0) (v := .agg #[.int .i64 0, .string (⟨#[]⟩ : ByteArray)]) (by kernel_rfl) (by kernel_rfl) (ti := Tryz.t51) (by kernel_rfl) hs18 1 rfl (by kernel_rfl) (by kernel_rfl) (Nat.le_of_ble_eq_true (by kernel_rfl)) (cs' := #[.int .i64 0, .string (⟨#[]⟩ : ByteArray)]) (L' := (MapA Value.string Value.string r (aset m o.key o.value)) :: (Cel b4 #[.int .i64 0, .string (⟨#[]⟩ : ByteArray)] 51) :: (Cel b1 (OpV.cells o) 44) :: (Cel p #[.map (some r)] 127) :: L) (by kernel_rfl) rfl ?_
    intro w19 hs20
    refine ⟨Xo, ?_⟩
    refine GoR.done (GoQ.thn (GoC.ret ?_))
    refine GoQ.done (.inl rfl) (v := .agg #[.int .i64 0, .string (⟨#[]⟩ : ByteArray)]) (fun a hf => resultsA rfl (by kernel_rfl) (ti := Tryz.t51) (by kernel_rfl) (by kernel_rfl) (vs := #[.int .i64 0, .string (⟨#[]⟩ : ByteArray)]) (by kernel_rfl) (hs20.cells 1 0 rfl (by kernel_rfl)) a hf) ?_
    have hs21 : St w0 ((Cel p #[.map (some r)] 127) :: (MapA Value.string Value.string r (aset m o.key o.value)) :: (Cel b4 #[.int .i64 0, .string (⟨#[]⟩ : ByteArray)] 51) :: (Cel b1 (OpV.cells o) 44) :: L) w19 := ((hs20.pull 0 rfl).pull 3 rfl)
    have hr : lswap m o was = ((⟨0, (⟨#[]⟩ : ByteArray)⟩ : RepV), aset m o.key o.value) := by rw [lswap, if_neg (ne_true_of_eq_false h7)]
    exact ⟨by first | (rw [hr]; done) | (rw [hr]; rfl), by first | exact hs21.drop2 2 | (rw [hr]; exact hs21.drop2 2)⟩
end Go.Proofs.YtbmmknchcdhefaaGreatDoor
