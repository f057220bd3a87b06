/-
  Check. Conditions: none beside each theorem's own.
-/
import Derived.Test.YtbmmknchcdhefaaGreatDoorSxT
import Derived.Test.YtbmmknchcdhefaaGreatDoorHisD
namespace Go.Proofs.YtbmmknchcdhefaaGreatDoor
open Go.RowKit Go.Sx
set_option linter.unusedVariables false
set_option linter.unusedSimpArgs false
set_option linter.unnecessarySimpa false
set_option maxRecDepth 100000
theorem chk1_spec {w0 w : World} {L : List Asn} {b0 : Nat} {al : Option Addr} {cl : Nat} (l : List CallV) (hlen : l.length ≤ 1000000) (hr : ∀ w, St w0 L w → RowsAt w al l.length 13 (fun k => CallV.cells (l.getD k dCall))) (hs : St w0 ((Cel b0 #[.slice al l.length cl] 22) :: L) w) : Calls Tryz.prog 19 #[vp b0 0] w (Ret fun rv w' => rv = .tuple #[.int .i64 ((twO nameOf dCall l).getD 0 : Nat), .bool ((twO nameOf dCall l).isSome)] ∧ St w0 ((Cel b0 #[.slice al l.length cl] 22) :: L) w') := by
  refine enter (args := [vp b0 0]) Tryz.func19 rfl Tryz.ntmps19 (Nat.le_of_ble_eq_true (by kernel_rfl)) ?_
  refine GoC.slots (S' := [(0, vp b0 0)]) rfl ?_
  refine GoC.seq ?_
  refine Xt (.rd 0 (.rd 1 .done)) ?_
  refine Xk [(0, .gen []), (1, .gen [])] [] [(2, .bool false), (1, .int .i64 0), (0, vp b0 0)] ak0 ?_
  refine GoR.done (GoQ.thn (GoC.seq ?_))
  refine Xt (.rd 0 (.ef 1 (.rd 2 (.rd 3 (.rd 4 (.rd 5 .done)))))) ?_
  refine Xk [(0, .gen [.slice al l.length cl])] [(0, [.cell ⟨b0, 0, none⟩ (.slice al l.length cl)])] [(3, .slice al l.length cl), (2, .bool false), (1, .int .i64 0)] (ak (okc (hs.cell 0 rfl (by kernel_rfl)) ok0) ak0) ?_
  refine Xa (f := 20) (args := #[.slice al l.length cl, .func (.func 21) #[] #[]]) Tryz.call20 (twC_spec l (by omega) (fun w h => hr _ (h.drop 1)) hs) ?_
  rintro v2 w3 ⟨rfl, hs1⟩
  refine ⟨Xo, ?_⟩
  refine Xk [(2, .gen []), (3, .gen []), (4, .gen []), (5, .gen [])] [] [(2, .bool ((twO nameOf dCall l).isSome)), (1, .int .i64 ((twO nameOf dCall l).getD 0 : Nat))] ak0 ?_
  refine GoR.done (GoQ.thn (GoC.ret ?_))
  refine X2 (v := .int .i64 ((twO nameOf dCall l).getD 0 : Nat)) (v' := .bool ((twO nameOf dCall l).isSome)) ?_
  exact ⟨rfl, hs1⟩
theorem chk2_spec {w0 w : World} {L : List Asn} {b0 : Nat} {ar : Option Addr} {cr : Nat} (row : List ReqV) (hlen : row.length ≤ 1000000) (hr : ∀ w, St w0 L w → RowsAt w ar row.length 40 (fun k => ReqV.cells (row.getD k dReq))) (hs : St w0 ((Cel b0 #[.slice ar row.length cr] 23) :: L) w) : Calls Tryz.prog 24 #[vp b0 0] w (Ret fun rv w' => rv = .tuple #[.int .i64 ((twO nameQ dReq row).getD 0 : Nat), .bool ((twO nameQ dReq row).isSome)] ∧ St w0 ((Cel b0 #[.slice ar row.length cr] 23) :: L) w') := by
  refine enter (args := [vp b0 0]) Tryz.func24 rfl Tryz.ntmps24 (Nat.le_of_ble_eq_true (by kernel_rfl)) ?_
  refine GoC.slots (S' := [(0, vp b0 0)]) rfl ?_
  refine GoC.seq ?_
  refine Xt (.rd 0 (.rd 1 .done)) ?_
  refine Xk [(0, .gen []), (1, .gen [])] [] [(2, .bool false), (1, .int .i64 0), (0, vp b0 0)] ak0 ?_
  refine GoR.done (GoQ.thn (GoC.seq ?_))
  refine Xt (.rd 0 (.ef 1 (.rd 2 (.rd 3 (.rd 4 (.rd 5 .done)))))) ?_
  refine Xk [(0, .gen [.slice ar row.length cr])] [(0, [.cell ⟨b0, 0, none⟩ (.slice ar row.length cr)])] [(3, .slice ar row.length cr), (2, .bool false), (1, .int .i64 0)] (ak (okc (hs.cell 0 rfl (by kernel_rfl)) ok0) ak0) ?_
  refine Xa (f := 25) (args := #[.slice ar row.length cr, .func (.func 26) #[] #[]]) Tryz.call25 (twQ_spec row (by omega) (fun w h => hr _ (h.drop 1)) hs) ?_
  rintro v2 w3 ⟨rfl, hs1⟩
  refine ⟨Xo, ?_⟩
  refine Xk [(2, .gen []), (3, .gen []), (4, .gen []), (5, .gen [])] [] [(2, .bool ((twO nameQ dReq row).isSome)), (1, .int .i64 ((twO nameQ dReq row).getD 0 : Nat))] ak0 ?_
  refine GoR.done (GoQ.thn (GoC.ret ?_))
  refine X2 (v := .int .i64 ((twO nameQ dReq row).getD 0 : Nat)) (v' := .bool ((twO nameQ dReq row).isSome)) ?_
  exact ⟨rfl, hs1⟩
def look (l : List CallV) (row : List ReqV) : Nat → Option Nat
  | 0 => twO nameOf dCall l
  | 1 => idx dCall l (overB l)
  | 2 => idx dReq row (forB l)
  | 3 => twO nameQ dReq row
  | 4 => idx dCall l (missB row)
  | 5 => idx dCall l (othB (repM row row.length) row)
  | 6 => idx dCall l (earB l row)
  | _ => none
def chkF (l : List CallV) (row : List ReqV) : Nat → Int × Int
  | 0 => (0, 0)
  | n + 1 => if (look l row (6 - n)).isSome = true then (((6 - n : Nat) : Int) + 1, (((look l row (6 - n)).getD 0 : Nat) : Int)) else chkF l row n
def chkV (l : List CallV) (row : List ReqV) : Int × Int := chkF l row 7
theorem chk_hit {l : List CallV} {row : List ReqV} {j : Nat} (hj : j < 7) (hp : chkV l row = chkF l row (7 - j)) (h : (look l row j).isSome = true) : chkV l row = (((j : Nat) : Int) + 1, (((look l row j).getD 0 : Nat) : Int)) := by
  rw [hp, show 7 - j = (6 - j) + 1 by omega, chkF, show 6 - (6 - j) = j by omega, if_pos h]
theorem chk_miss {l : List CallV} {row : List ReqV} {j : Nat} (hj : j < 7) (hp : chkV l row = chkF l row (7 - j)) (h : (look l row j).isSome = false) : chkV l row = chkF l row (7 - (j + 1)) := by
  rw [hp, show 7 - j = (6 - j) + 1 by omega, chkF, show 6 - (6 - j) = j by omega, if_neg (ne_true_of_eq_false h), show 7 - (j + 1) = 6 - j by omega]
set_option maxHeartbeats 4000000 in
theorem check_spec {w0 w : World} {L : List Asn} {al : Option Addr} {cl : Nat} {ar : Option Addr} {cr : Nat} (l : List CallV) (row : List ReqV) (hll : l.length ≤ 1000000) (hrr : row.length ≤ 1000000) (hok : ∀ q ∈ row, 0 ≤ q.op.amount) (hL : ∀ w, St w0 L w → Laid w) (hr1 : ∀ w, St w0 L w → RowsAt w al l.length 13 (fun k => CallV.cells (l.getD k dCall))) (hr2 : ∀ w, St w0 L w → RowsAt w ar row.length 40 (fun k => ReqV.cells (row.getD k dReq))) (hs : St w0 (L) w) : Calls Tryz.prog 9 #[.slice al l.length cl, .slice ar row.length cr] w (Ret fun rv w' => rv = .tuple #[.int .u8 ((chkV l row).1), .int .i64 ((chkV l row).2)] ∧ St w0 (L) w') := by
  refine enter (args := [.slice al l.length cl, .slice ar row.length cr]) Tryz.func9 rfl Tryz.ntmps9 (Nat.le_of_ble_eq_true (by kernel_rfl)) ?_
  refine GoC.slots (S' := [(0, .slice al l.length cl), (1, .slice ar row.length cr)]) rfl ?_
  refine GoC.seq ?_
  refine Xt (.ef 0 (.ef 1 (.rd 2 (.rd 3 .done)))) ?_
  refine GoR.box rfl rfl (by kernel_rfl) (v := .slice al l.length cl) (by kernel_rfl) hs (cs := #[.slice al l.length cl]) (by kernel_rfl) ?_
  intro b1 w2 hs3
  refine ⟨Xo, ?_⟩
  refine GoR.box rfl rfl (by kernel_rfl) (v := .slice ar row.length cr) (by kernel_rfl) hs3 (cs := #[.slice ar row.length cr]) (by kernel_rfl) ?_
  intro b4 w5 hs6
  refine ⟨Xo, ?_⟩
  refine Xk [(2, .gen []), (3, .gen [])] [] [(5, .int .i64 0), (4, .int .u8 0), (3, vp b4 0), (2, vp b1 0)] ak0 ?_
  refine GoR.done (GoQ.thn (GoC.seq ?_))
  refine Xt (.rd 0 (.rd 1 (.rd 2 (.ef 3 (.rd 4 .done))))) ?_
  refine Xk [(0, .gen [.slice al l.length cl]), (1, .gen [.slice ar row.length cr]), (2, .gen [])] [(0, [.cell ⟨b1, 0, none⟩ (.slice al l.length cl)]), (1, [.cell ⟨b4, 0, none⟩ (.slice ar row.length cr)])] [(13, .agg #[.slice al l.length cl, .slice ar row.length cr]), (5, .int .i64 0), (4, .int .u8 0), (3, vp b4 0), (2, vp b1 0)] (ak (okc (hs6.cell 1 rfl (by kernel_rfl)) ok0) (ak (okc (hs6.cell 0 rfl (by kernel_rfl)) ok0) ak0)) ?_
  refine GoR.box rfl rfl (by kernel_rfl) (v := .agg #[.slice al l.length cl, .slice ar row.length cr]) (by kernel_rfl) hs6 (cs := #[.slice al l.length cl, .slice ar row.length cr]) (by kernel_rfl) ?_
  intro b7 w8 hs9
  refine ⟨Xo, ?_⟩
  refine Xk [(4, .gen [])] [] [(6, vp b7 0), (5, .int .i64 0), (4, .int .u8 0), (3, vp b4 0), (2, vp b1 0)] ak0 ?_
  refine GoR.done (GoQ.thn (GoC.seq (GoC.seq ?_)))
  refine Xt (.rd 0 (.rd 1 (.rd 2 (.rd 3 (.rd 4 (.rd 5 (.rd 6 (.rd 7 (.rd 8 (.rd 9 (.rd 10 (.rd 11 (.rd 12 (.rd 13 (.rd 14 (.rd 15 (.rd 16 (.rd 17 (.rd 18 (.ef 19 (.rd 20 (.rd 21 .done)))))))))))))))))))))) ?_
  refine Xk [(0, .gen []), (1, .gen []), (2, .gen []), (3, .gen []), (4, .gen []), (5, .gen []), (6, .gen []), (7, .gen []), (8, .gen []), (9, .gen []), (10, .gen []), (11, .gen []), (12, .gen []), (13, .gen []), (14, .gen []), (15, .gen []), (16, .gen []), (17, .gen []), (18, .gen [])] [] [(33, .agg #[.int .u8 7, .func (.func 29) #[vp b7 0] #[]]), (30, .agg #[.int .u8 6, .func (.func 28) #[vp b7 0] #[]]), (27, .agg #[.int .u8 5, .func (.func 27) #[vp b7 0] #[]]), (24, .agg #[.int .u8 4, .func (.func 24) #[] #[vp b4 0]]), (22, .agg #[.int .u8 3, .func (.func 23) #[vp b7 0] #[]]), (19, .agg #[.int .u8 2, .func (.func 22) #[vp b7 0] #[]]), (16, .agg #[.int .u8 1, .func (.func 19) #[] #[vp b1 0]]), (5, .int .i64 0), (4, .int .u8 0)] ak0 ?_
  refine GoR.sliceLit rfl (by kernel_rfl) (t := 75) (e := 70) (n := 7) (ps := [(0, .agg #[.int .u8 1, .func (.func 19) #[] #[vp b1 0]]), (1, .agg #[.int .u8 2, .func (.func 22) #[vp b7 0] #[]]), (2, .agg #[.int .u8 3, .func (.func 23) #[vp b7 0] #[]]), (3, .agg #[.int .u8 4, .func (.func 24) #[] #[vp b4 0]]), (4, .agg #[.int .u8 5, .func (.func 27) #[vp b7 0] #[]]), (5, .agg #[.int .u8 6, .func (.func 28) #[vp b7 0] #[]]), (6, .agg #[.int .u8 7, .func (.func 29) #[vp b7 0] #[]])]) (by kernel_rfl) (by kernel_rfl) (ti := Tryz.t70) (z := .agg #[.int .u8 0, .nilFunc]) (by kernel_rfl) (by kernel_rfl) (by decide) (by decide) (cs := #[.int .u8 1, .func (.func 19) #[] #[vp b1 0], .int .u8 2, .func (.func 22) #[vp b7 0] #[], .int .u8 3, .func (.func 23) #[vp b7 0] #[], .int .u8 4, .func (.func 24) #[] #[vp b4 0], .int .u8 5, .func (.func 27) #[vp b7 0] #[], .int .u8 6, .func (.func 28) #[vp b7 0] #[], .int .u8 7, .func (.func 29) #[vp b7 0] #[]]) (by kernel_rfl) hs9 ?_
  intro b10 w11 hs12 hz13
  refine ⟨Xo, ?_⟩
  refine Xk [(20, .gen []), (21, .gen [])] [] [(36, .int .i64 0), (35, .int .i64 7), (34, vl b10 0 7 7), (5, .int .i64 0), (4, .int .u8 0)] ak0 ?_
  refine GoR.done (GoQ.thn (GoC.block ?_))
  refine GoC.loop (T := Nat) (fun gg => [(34, vl b10 0 7 7), (35, .int .i64 7), (36, .int .i64 (gg : Nat))]) (fun gg w => (gg ≤ 7 ∧ chkV l row = chkF l row (7 - gg)) ∧ St w0 ((Cel b10 #[.int .u8 1, .func (.func 19) #[] #[vp b1 0], .int .u8 2, .func (.func 22) #[vp b7 0] #[], .int .u8 3, .func (.func 23) #[vp b7 0] #[], .int .u8 4, .func (.func 24) #[] #[vp b4 0], .int .u8 5, .func (.func 27) #[vp b7 0] #[], .int .u8 6, .func (.func 28) #[vp b7 0] #[], .int .u8 7, .func (.func 29) #[vp b7 0] #[]] 70) :: (Cel b7 #[.slice al l.length cl, .slice ar row.length cr] 64) :: (Cel b4 #[.slice ar row.length cr] 23) :: (Cel b1 #[.slice al l.length cl] 22) :: L) w) (fun gg => 7 - gg) 0 [34, 35, 36] (by kernel_rfl) ⟨⟨Nat.zero_le _, rfl⟩, hs12⟩ ?_
  rintro k w14 ⟨hp0, hs15⟩
  have hp : k ≤ 7 ∧ chkV l row = chkF l row (7 - k) := hp0
  have hs16 : St w0 ((Cel b10 #[.int .u8 1, .func (.func 19) #[] #[vp b1 0], .int .u8 2, .func (.func 22) #[vp b7 0] #[], .int .u8 3, .func (.func 23) #[vp b7 0] #[], .int .u8 4, .func (.func 24) #[] #[vp b4 0], .int .u8 5, .func (.func 27) #[vp b7 0] #[], .int .u8 6, .func (.func 28) #[vp b7 0] #[], .int .u8 7, .func (.func 29) #[vp b7 0] #[]] 70) :: (Cel b7 #[.slice al l.length cl, .slice ar row.length cr] 64) :: (Cel b4 #[.slice ar row.length cr] 23) :: (Cel b1 #[.slice al l.length cl] 22) :: L) w14 := hs15
  refine GoC.slots (S' := [(34, vl b10 0 7 7), (35, .int .i64 7), (36, .int .i64 (k : Nat))]) rfl ?_
  refine GoC.seq ?_
  refine Xt (.rd 0 .done) ?_
  refine Xk [(0, .gen [])] [] [(37, .bool (decide (((k : Nat) : Int) < 7))), (34, vl b10 0 7 7), (35, .int .i64 7), (36, .int .i64 (k : Nat))] ak0 ?_
  refine GoR.done (GoQ.thn (GoC.seq ?_))
  refine Xc (t := decide (((k : Nat) : Int) < 7)) (fun h17 => ?_) (fun h17 => ?_)
  · have h17' : ((k : Nat) : Int) < 7 := of_decide_eq_true h17
    have hcs : k = 0 ∨ k = 1 ∨ k = 2 ∨ k = 3 ∨ k = 4 ∨ k = 5 ∨ k = 6 := by omega
    rcases hcs with rfl | rfl | rfl | rfl | rfl | rfl | rfl
    · refine GoC.slots (S' := [(37, .bool (decide (((0 : Nat) : Int) < 7))), (34, vl b10 0 7 7), (35, .int .i64 7), (36, .int .i64 0)]) rfl ?_
      refine GoC.skip (GoQ.thn (GoC.seq (GoC.block (GoC.seq ?_))))
      refine Xt (.rd 0 (.rd 1 (.ef 2 (.ef 3 .done)))) ?_
      refine Xk [(0, .as_ (vp b10 0) .at_), (1, .agg #[.int .u8 1, .func (.func 19) #[] #[vp b1 0]])] [(0, [.prop (0 ≤ (0 : Int) ∧ (0 : Int) < (7 : Int)), .prop (Value.pointer (some (Addr.add ⟨b10, 0, none⟩ (Int.toNat 0 * 2))) = Value.pointer (some ⟨b10, 0, none⟩))]), (1, [.prop (Array.size (#[.int .u8 1, .func (.func 19) #[] #[vp b1 0]] : Array Value) = 2), .cells ⟨b10, 0, none⟩ #[.int .u8 1, .func (.func 19) #[] #[vp b1 0]]])] [(39, .agg #[.int .u8 1, .func (.func 19) #[] #[vp b1 0]]), (34, vl b10 0 7 7), (35, .int .i64 7), (36, .int .i64 0)] (ak (okp (by omega) (okp (ptrAdd _ _ _) ok0)) (ak (okp (by kernel_rfl) (oka (hs16.cells 0 0 rfl (by kernel_rfl)) ok0)) ak0)) ?_
      refine GoR.alloc rfl rfl (by kernel_rfl) (z := .agg #[.int .u8 0, .nilFunc]) (by kernel_rfl) hs16 (cs := #[.int .u8 0, .nilFunc]) (by kernel_rfl) ?_
      intro b18 w19 hs20
      refine ⟨Xo, ?_⟩
      refine GoR.store rfl rfl (by kernel_rfl) (b := b18) (off := 0) (v := .agg #[.int .u8 1, .func (.func 19) #[] #[vp b1 0]]) (by kernel_rfl) (by kernel_rfl) (ti := Tryz.t70) (by kernel_rfl) hs20 0 rfl (by kernel_rfl) (by kernel_rfl) (Nat.le_of_ble_eq_true (by kernel_rfl)) (cs' := #[.int .u8 1, .func (.func 19) #[] #[vp b1 0]]) (L' := (Cel b18 #[.int .u8 1, .func (.func 19) #[] #[vp b1 0]] 70) :: (Cel b10 #[.int .u8 1, .func (.func 19) #[] #[vp b1 0], .int .u8 2, .func (.func 22) #[vp b7 0] #[], .int .u8 3, .func (.func 23) #[vp b7 0] #[], .int .u8 4, .func (.func 24) #[] #[vp b4 0], .int .u8 5, .func (.func 27) #[vp b7 0] #[], .int .u8 6, .func (.func 28) #[vp b7 0] #[], .int .u8 7, .func (.func 29) #[vp b7 0] #[]] 70) :: (Cel b7 #[.slice al l.length cl, .slice ar row.length cr] 64) :: (Cel b4 #[.slice ar row.length cr] 23) :: (Cel b1 #[.slice al l.length cl] 22) :: L) (by kernel_rfl) rfl ?_
      intro w21 hs22
      refine ⟨Xo, ?_⟩
      refine GoR.done (GoQ.thn (GoC.seq ?_))
      refine Xt (.rd 0 (.rd 1 (.ef 2 (.rd 3 (.rd 4 (.rd 5 (.rd 6 (.rd 7 .done)))))))) ?_
      refine Xk [(0, .gen []), (1, .gen [.func (.func 19) #[] #[vp b1 0]])] [(1, [.cell ⟨b18, 1, none⟩ (.func (.func 19) #[] #[vp b1 0])])] [(42, .func (.func 19) #[] #[vp b1 0]), (8, vp b18 0), (34, vl b10 0 7 7), (35, .int .i64 7), (36, .int .i64 0)] (ak (okc (hs22.cell 0 rfl (by kernel_rfl)) ok0) ak0) ?_
      have hs23 : St w0 ((Cel b1 #[.slice al l.length cl] 22) :: (Cel b18 #[.int .u8 1, .func (.func 19) #[] #[vp b1 0]] 70) :: (Cel b10 #[.int .u8 1, .func (.func 19) #[] #[vp b1 0], .int .u8 2, .func (.func 22) #[vp b7 0] #[], .int .u8 3, .func (.func 23) #[vp b7 0] #[], .int .u8 4, .func (.func 24) #[] #[vp b4 0], .int .u8 5, .func (.func 27) #[vp b7 0] #[], .int .u8 6, .func (.func 28) #[vp b7 0] #[], .int .u8 7, .func (.func 29) #[vp b7 0] #[]] 70) :: (Cel b7 #[.slice al l.length cl, .slice ar row.length cr] 64) :: (Cel b4 #[.slice ar row.length cr] 23) :: L) w21 := (hs22.pull 4 rfl)
      refine Xa (f := 19) (args := #[vp b1 0]) Tryz.call19 (chk1_spec l (by omega) (fun w h => hr1 _ (h.drop 4)) hs23) ?_
      rintro v25 w26 ⟨rfl, hs24⟩
      refine ⟨Xo, ?_⟩
      refine Xk [(3, .gen []), (4, .gen []), (5, .gen []), (6, .gen []), (7, .gen [])] [] [(10, .bool ((twO nameOf dCall l).isSome)), (9, .int .i64 ((twO nameOf dCall l).getD 0 : Nat)), (8, vp b18 0), (34, vl b10 0 7 7), (35, .int .i64 7), (36, .int .i64 0)] ak0 ?_
      refine GoR.done (GoQ.thn (GoC.seq ?_))
      refine Xt (.rd 0 .done) ?_
      refine Xk [(0, .gen [])] [] [(46, .bool ((twO nameOf dCall l).isSome)), (9, .int .i64 ((twO nameOf dCall l).getD 0 : Nat)), (8, vp b18 0), (34, vl b10 0 7 7), (35, .int .i64 7), (36, .int .i64 0)] ak0 ?_
      refine GoR.done (GoQ.thn ?_)
      refine Xc (t := (twO nameOf dCall l).isSome) (fun h27 => ?_) (fun h27 => ?_)
      · refine GoC.seq ?_
        refine Xt (.rd 0 (.rd 1 (.rd 2 (.rd 3 (.rd 4 .done))))) ?_
        refine Xk [(0, .gen []), (1, .gen [.int .u8 1]), (2, .gen []), (3, .gen []), (4, .gen [])] [(1, [.cell ⟨b18, 0, none⟩ (.int .u8 1)])] [(5, .int .i64 ((twO nameOf dCall l).getD 0 : Nat)), (4, .int .u8 1), (34, vl b10 0 7 7), (35, .int .i64 7), (36, .int .i64 0)] (ak (okc (hs24.cell 1 rfl (by kernel_rfl)) ok0) ak0) ?_
        refine GoR.done (GoQ.thn (GoC.ret (GoQ.blkR (GoQ.skipCR (GoQ.skipLR (GoQ.blkR (GoQ.skipCR ?_)))))))
        refine X2 (v := .int .u8 1) (v' := .int .i64 ((twO nameOf dCall l).getD 0 : Nat)) ?_
        have hs28 : St w0 (L) w26 := hs24.drop 5
        exact ⟨(by rw [chk_hit (j := 0) (by decide) hp.2 (show (look l row 0).isSome = true from h27)]; rfl), hs28⟩
      · refine GoC.skip (GoQ.blkN (GoQ.thn ?_))
        refine Xt (.rd 0 (.rd 1 .done)) ?_
        refine Xk [(0, .gen []), (1, .gen [])] [] [(36, .int .i64 1), (34, vl b10 0 7 7), (35, .int .i64 7)] ak0 ?_
        refine GoR.done ?_
        have hs29 : St w0 ((Cel b18 #[.int .u8 1, .func (.func 19) #[] #[vp b1 0]] 70) :: (Cel b10 #[.int .u8 1, .func (.func 19) #[] #[vp b1 0], .int .u8 2, .func (.func 22) #[vp b7 0] #[], .int .u8 3, .func (.func 23) #[vp b7 0] #[], .int .u8 4, .func (.func 24) #[] #[vp b4 0], .int .u8 5, .func (.func 27) #[vp b7 0] #[], .int .u8 6, .func (.func 28) #[vp b7 0] #[], .int .u8 7, .func (.func 29) #[vp b7 0] #[]] 70) :: (Cel b7 #[.slice al l.length cl, .slice ar row.length cr] 64) :: (Cel b4 #[.slice ar row.length cr] 23) :: (Cel b1 #[.slice al l.length cl] 22) :: L) w26 := (((((hs24.pull 0 rfl).pull 4 rfl).pull 4 rfl).pull 4 rfl).pull 4 rfl)
        have hs30 : St w0 ((Cel b10 #[.int .u8 1, .func (.func 19) #[] #[vp b1 0], .int .u8 2, .func (.func 22) #[vp b7 0] #[], .int .u8 3, .func (.func 23) #[vp b7 0] #[], .int .u8 4, .func (.func 24) #[] #[vp b4 0], .int .u8 5, .func (.func 27) #[vp b7 0] #[], .int .u8 6, .func (.func 28) #[vp b7 0] #[], .int .u8 7, .func (.func 29) #[vp b7 0] #[]] 70) :: (Cel b7 #[.slice al l.length cl, .slice ar row.length cr] 64) :: (Cel b4 #[.slice ar row.length cr] 23) :: (Cel b1 #[.slice al l.length cl] 22) :: L) w26 := hs29.drop 1
        exact GoQ.back 1 [34, 35, 36] (by kernel_rfl) (by decide) ⟨⟨by omega, chk_miss (j := 0) (by decide) hp.2 (show (look l row 0).isSome = false from h27)⟩, hs30⟩
    · refine GoC.slots (S' := [(37, .bool (decide (((1 : Nat) : Int) < 7))), (34, vl b10 0 7 7), (35, .int .i64 7), (36, .int .i64 1)]) rfl ?_
      refine GoC.skip (GoQ.thn (GoC.seq (GoC.block (GoC.seq ?_))))
      refine Xt (.rd 0 (.rd 1 (.ef 2 (.ef 3 .done)))) ?_
      refine Xk [(0, .as_ (vp b10 2) .at_), (1, .agg #[.int .u8 2, .func (.func 22) #[vp b7 0] #[]])] [(0, [.prop (0 ≤ (1 : Int) ∧ (1 : Int) < (7 : Int)), .prop (Value.pointer (some (Addr.add ⟨b10, 0, none⟩ (Int.toNat 1 * 2))) = Value.pointer (some ⟨b10, 2, none⟩))]), (1, [.prop (Array.size (#[.int .u8 2, .func (.func 22) #[vp b7 0] #[]] : Array Value) = 2), .cells ⟨b10, 2, none⟩ #[.int .u8 2, .func (.func 22) #[vp b7 0] #[]]])] [(39, .agg #[.int .u8 2, .func (.func 22) #[vp b7 0] #[]]), (34, vl b10 0 7 7), (35, .int .i64 7), (36, .int .i64 1)] (ak (okp (by omega) (okp (ptrAdd _ _ _) ok0)) (ak (okp (by kernel_rfl) (oka (hs16.cells 0 2 rfl (by kernel_rfl)) ok0)) ak0)) ?_
      refine GoR.alloc rfl rfl (by kernel_rfl) (z := .agg #[.int .u8 0, .nilFunc]) (by kernel_rfl) hs16 (cs := #[.int .u8 0, .nilFunc]) (by kernel_rfl) ?_
      intro b31 w32 hs33
      refine ⟨Xo, ?_⟩
      refine GoR.store rfl rfl (by kernel_rfl) (b := b31) (off := 0) (v := .agg #[.int .u8 2, .func (.func 22) #[vp b7 0] #[]]) (by kernel_rfl) (by kernel_rfl) (ti := Tryz.t70) (by kernel_rfl) hs33 0 rfl (by kernel_rfl) (by kernel_rfl) (Nat.le_of_ble_eq_true (by kernel_rfl)) (cs' := #[.int .u8 2, .func (.func 22) #[vp b7 0] #[]]) (L' := (Cel b31 #[.int .u8 2, .func (.func 22) #[vp b7 0] #[]] 70) :: (Cel b10 #[.int .u8 1, .func (.func 19) #[] #[vp b1 0], .int .u8 2, .func (.func 22) #[vp b7 0] #[], .int .u8 3, .func (.func 23) #[vp b7 0] #[], .int .u8 4, .func (.func 24) #[] #[vp b4 0], .int .u8 5, .func (.func 27) #[vp b7 0] #[], .int .u8 6, .func (.func 28) #[vp b7 0] #[], .int .u8 7, .func (.func 29) #[vp b7 0] #[]] 70) :: (Cel b7 #[.slice al l.length cl, .slice ar row.length cr] 64) :: (Cel b4 #[.slice ar row.length cr] 23) :: (Cel b1 #[.slice al l.length cl] 22) :: L) (by kernel_rfl) rfl ?_
      intro w34 hs35
      refine ⟨Xo, ?_⟩
      refine GoR.done (GoQ.thn (GoC.seq ?_))
      refine Xt (.rd 0 (.rd 1 (.ef 2 (.rd 3 (.rd 4 (.rd 5 (.rd 6 (.rd 7 .done)))))))) ?_
      refine Xk [(0, .gen []), (1, .gen [.func (.func 22) #[vp b7 0] #[]])] [(1, [.cell ⟨b31, 1, none⟩ (.func (.func 22) #[vp b7 0] #[])])] [(42, .func (.func 22) #[vp b7 0] #[]), (8, vp b31 0), (34, vl b10 0 7 7), (35, .int .i64 7), (36, .int .i64 1)] (ak (okc (hs35.cell 0 rfl (by kernel_rfl)) ok0) ak0) ?_
      have hs36 : St w0 ((Cel b7 #[.slice al l.length cl, .slice ar row.length cr] 64) :: (Cel b31 #[.int .u8 2, .func (.func 22) #[vp b7 0] #[]] 70) :: (Cel b10 #[.int .u8 1, .func (.func 19) #[] #[vp b1 0], .int .u8 2, .func (.func 22) #[vp b7 0] #[], .int .u8 3, .func (.func 23) #[vp b7 0] #[], .int .u8 4, .func (.func 24) #[] #[vp b4 0], .int .u8 5, .func (.func 27) #[vp b7 0] #[], .int .u8 6, .func (.func 28) #[vp b7 0] #[], .int .u8 7, .func (.func 29) #[vp b7 0] #[]] 70) :: (Cel b4 #[.slice ar row.length cr] 23) :: (Cel b1 #[.slice al l.length cl] 22) :: L) w34 := (hs35.pull 2 rfl)
      refine Xa (f := 22) (args := #[vp b7 0]) Tryz.call22 (overlap_spec l row (by omega) (by omega) (fun w h => hr1 _ (h.drop 4)) (fun w h => hr2 _ (h.drop 4)) hs36) ?_
      rintro v38 w39 ⟨rfl, hs37⟩
      refine ⟨Xo, ?_⟩
      refine Xk [(3, .gen []), (4, .gen []), (5, .gen []), (6, .gen []), (7, .gen [])] [] [(10, .bool ((idx dCall l (overB l)).isSome)), (9, .int .i64 ((idx dCall l (overB l)).getD 0 : Nat)), (8, vp b31 0), (34, vl b10 0 7 7), (35, .int .i64 7), (36, .int .i64 1)] ak0 ?_
      refine GoR.done (GoQ.thn (GoC.seq ?_))
      refine Xt (.rd 0 .done) ?_
      refine Xk [(0, .gen [])] [] [(46, .bool ((idx dCall l (overB l)).isSome)), (9, .int .i64 ((idx dCall l (overB l)).getD 0 : Nat)), (8, vp b31 0), (34, vl b10 0 7 7), (35, .int .i64 7), (36, .int .i64 1)] ak0 ?_
      refine GoR.done (GoQ.thn ?_)
      refine Xc (t := (idx dCall l (overB l)).isSome) (fun h40 => ?_) (fun h40 => ?_)
      · refine GoC.seq ?_
        refine Xt (.rd 0 (.rd 1 (.rd 2 (.rd 3 (.rd 4 .done))))) ?_
        refine Xk [(0, .gen []), (1, .gen [.int .u8 2]), (2, .gen []), (3, .gen []), (4, .gen [])] [(1, [.cell ⟨b31, 0, none⟩ (.int .u8 2)])] [(5, .int .i64 ((idx dCall l (overB l)).getD 0 : Nat)), (4, .int .u8 2), (34, vl b10 0 7 7), (35, .int .i64 7), (36, .int .i64 1)] (ak (okc (hs37.cell 1 rfl (by kernel_rfl)) ok0) ak0) ?_
        refine GoR.done (GoQ.thn (GoC.ret (GoQ.blkR (GoQ.skipCR (GoQ.skipLR (GoQ.blkR (GoQ.skipCR ?_)))))))
        refine X2 (v := .int .u8 2) (v' := .int .i64 ((idx dCall l (overB l)).getD 0 : Nat)) ?_
        have hs41 : St w0 (L) w39 := hs37.drop 5
        exact ⟨(by rw [chk_hit (j := 1) (by decide) hp.2 (show (look l row 1).isSome = true from h40)]; rfl), hs41⟩
      · refine GoC.skip (GoQ.blkN (GoQ.thn ?_))
        refine Xt (.rd 0 (.rd 1 .done)) ?_
        refine Xk [(0, .gen []), (1, .gen [])] [] [(36, .int .i64 2), (34, vl b10 0 7 7), (35, .int .i64 7)] ak0 ?_
        refine GoR.done ?_
        have hs42 : St w0 ((Cel b31 #[.int .u8 2, .func (.func 22) #[vp b7 0] #[]] 70) :: (Cel b10 #[.int .u8 1, .func (.func 19) #[] #[vp b1 0], .int .u8 2, .func (.func 22) #[vp b7 0] #[], .int .u8 3, .func (.func 23) #[vp b7 0] #[], .int .u8 4, .func (.func 24) #[] #[vp b4 0], .int .u8 5, .func (.func 27) #[vp b7 0] #[], .int .u8 6, .func (.func 28) #[vp b7 0] #[], .int .u8 7, .func (.func 29) #[vp b7 0] #[]] 70) :: (Cel b7 #[.slice al l.length cl, .slice ar row.length cr] 64) :: (Cel b4 #[.slice ar row.length cr] 23) :: (Cel b1 #[.slice al l.length cl] 22) :: L) w39 := (((((hs37.pull 4 rfl).pull 4 rfl).pull 2 rfl).pull 4 rfl).pull 4 rfl)
        have hs43 : St w0 ((Cel b10 #[.int .u8 1, .func (.func 19) #[] #[vp b1 0], .int .u8 2, .func (.func 22) #[vp b7 0] #[], .int .u8 3, .func (.func 23) #[vp b7 0] #[], .int .u8 4, .func (.func 24) #[] #[vp b4 0], .int .u8 5, .func (.func 27) #[vp b7 0] #[], .int .u8 6, .func (.func 28) #[vp b7 0] #[], .int .u8 7, .func (.func 29) #[vp b7 0] #[]] 70) :: (Cel b7 #[.slice al l.length cl, .slice ar row.length cr] 64) :: (Cel b4 #[.slice ar row.length cr] 23) :: (Cel b1 #[.slice al l.length cl] 22) :: L) w39 := hs42.drop 1
        exact GoQ.back 2 [34, 35, 36] (by kernel_rfl) (by decide) ⟨⟨by omega, chk_miss (j := 1) (by decide) hp.2 (show (look l row 1).isSome = false from h40)⟩, hs43⟩
    · refine GoC.slots (S' := [(37, .bool (decide (((2 : Nat) : Int) < 7))), (34, vl b10 0 7 7), (35, .int .i64 7), (36, .int .i64 2)]) rfl ?_
      refine GoC.skip (GoQ.thn (GoC.seq (GoC.block (GoC.seq ?_))))
      refine Xt (.rd 0 (.rd 1 (.ef 2 (.ef 3 .done)))) ?_
      refine Xk [(0, .as_ (vp b10 4) .at_), (1, .agg #[.int .u8 3, .func (.func 23) #[vp b7 0] #[]])] [(0, [.prop (0 ≤ (2 : Int) ∧ (2 : Int) < (7 : Int)), .prop (Value.pointer (some (Addr.add ⟨b10, 0, none⟩ (Int.toNat 2 * 2))) = Value.pointer (some ⟨b10, 4, none⟩))]), (1, [.prop (Array.size (#[.int .u8 3, .func (.func 23) #[vp b7 0] #[]] : Array Value) = 2), .cells ⟨b10, 4, none⟩ #[.int .u8 3, .func (.func 23) #[vp b7 0] #[]]])] [(39, .agg #[.int .u8 3, .func (.func 23) #[vp b7 0] #[]]), (34, vl b10 0 7 7), (35, .int .i64 7), (36, .int .i64 2)] (ak (okp (by omega) (okp (ptrAdd _ _ _) ok0)) (ak (okp (by kernel_rfl) (oka (hs16.cells 0 4 rfl (by kernel_rfl)) ok0)) ak0)) ?_
      refine GoR.alloc rfl rfl (by kernel_rfl) (z := .agg #[.int .u8 0, .nilFunc]) (by kernel_rfl) hs16 (cs := #[.int .u8 0, .nilFunc]) (by kernel_rfl) ?_
      intro b44 w45 hs46
      refine ⟨Xo, ?_⟩
      refine GoR.store rfl rfl (by kernel_rfl) (b := b44) (off := 0) (v := .agg #[.int .u8 3, .func (.func 23) #[vp b7 0] #[]]) (by kernel_rfl) (by kernel_rfl) (ti := Tryz.t70) (by kernel_rfl) hs46 0 rfl (by kernel_rfl) (by kernel_rfl) (Nat.le_of_ble_eq_true (by kernel_rfl)) (cs' := #[.int .u8 3, .func (.func 23) #[vp b7 0] #[]]) (L' := (Cel b44 #[.int .u8 3, .func (.func 23) #[vp b7 0] #[]] 70) :: (Cel b10 #[.int .u8 1, .func (.func 19) #[] #[vp b1 0], .int .u8 2, .func (.func 22) #[vp b7 0] #[], .int .u8 3, .func (.func 23) #[vp b7 0] #[], .int .u8 4, .func (.func 24) #[] #[vp b4 0], .int .u8 5, .func (.func 27) #[vp b7 0] #[], .int .u8 6, .func (.func 28) #[vp b7 0] #[], .int .u8 7, .func (.func 29) #[vp b7 0] #[]] 70) :: (Cel b7 #[.slice al l.length cl, .slice ar row.length cr] 64) :: (Cel b4 #[.slice ar row.length cr] 23) :: (Cel b1 #[.slice al l.length cl] 22) :: L) (by kernel_rfl) rfl ?_
      intro w47 hs48
      refine ⟨Xo, ?_⟩
      refine GoR.done (GoQ.thn (GoC.seq ?_))
      refine Xt (.rd 0 (.rd 1 (.ef 2 (.rd 3 (.rd 4 (.rd 5 (.rd 6 (.rd 7 .done)))))))) ?_
      refine Xk [(0, .gen []), (1, .gen [.func (.func 23) #[vp b7 0] #[]])] [(1, [.cell ⟨b44, 1, none⟩ (.func (.func 23) #[vp b7 0] #[])])] [(42, .func (.func 23) #[vp b7 0] #[]), (8, vp b44 0), (34, vl b10 0 7 7), (35, .int .i64 7), (36, .int .i64 2)] (ak (okc (hs48.cell 0 rfl (by kernel_rfl)) ok0) ak0) ?_
      have hs49 : St w0 ((Cel b7 #[.slice al l.length cl, .slice ar row.length cr] 64) :: (Cel b44 #[.int .u8 3, .func (.func 23) #[vp b7 0] #[]] 70) :: (Cel b10 #[.int .u8 1, .func (.func 19) #[] #[vp b1 0], .int .u8 2, .func (.func 22) #[vp b7 0] #[], .int .u8 3, .func (.func 23) #[vp b7 0] #[], .int .u8 4, .func (.func 24) #[] #[vp b4 0], .int .u8 5, .func (.func 27) #[vp b7 0] #[], .int .u8 6, .func (.func 28) #[vp b7 0] #[], .int .u8 7, .func (.func 29) #[vp b7 0] #[]] 70) :: (Cel b4 #[.slice ar row.length cr] 23) :: (Cel b1 #[.slice al l.length cl] 22) :: L) w47 := (hs48.pull 2 rfl)
      refine Xa (f := 23) (args := #[vp b7 0]) Tryz.call23 (foreign_spec l row (by omega) (by omega) (fun w h => hr1 _ (h.drop 4)) (fun w h => hr2 _ (h.drop 4)) hs49) ?_
      rintro v51 w52 ⟨rfl, hs50⟩
      refine ⟨Xo, ?_⟩
      refine Xk [(3, .gen []), (4, .gen []), (5, .gen []), (6, .gen []), (7, .gen [])] [] [(10, .bool ((idx dReq row (forB l)).isSome)), (9, .int .i64 ((idx dReq row (forB l)).getD 0 : Nat)), (8, vp b44 0), (34, vl b10 0 7 7), (35, .int .i64 7), (36, .int .i64 2)] ak0 ?_
      refine GoR.done (GoQ.thn (GoC.seq ?_))
      refine Xt (.rd 0 .done) ?_
      refine Xk [(0, .gen [])] [] [(46, .bool ((idx dReq row (forB l)).isSome)), (9, .int .i64 ((idx dReq row (forB l)).getD 0 : Nat)), (8, vp b44 0), (34, vl b10 0 7 7), (35, .int .i64 7), (36, .int .i64 2)] ak0 ?_
      refine GoR.done (GoQ.thn ?_)
      refine Xc (t := (idx dReq row (forB l)).isSome) (fun h53 => ?_) (fun h53 => ?_)
      · refine GoC.seq ?_
        refine Xt (.rd 0 (.rd 1 (.rd 2 (.rd 3 (.rd 4 .done))))) ?_
        refine Xk [(0, .gen []), (1, .gen [.int .u8 3]), (2, .gen []), (3, .gen []), (4, .gen [])] [(1, [.cell ⟨b44, 0, none⟩ (.int .u8 3)])] [(5, .int .i64 ((idx dReq row (forB l)).getD 0 : Nat)), (4, .int .u8 3), (34, vl b10 0 7 7), (35, .int .i64 7), (36, .int .i64 2)] (ak (okc (hs50.cell 1 rfl (by kernel_rfl)) ok0) ak0) ?_
        refine GoR.done (GoQ.thn (GoC.ret (GoQ.blkR (GoQ.skipCR (GoQ.skipLR (GoQ.blkR (GoQ.skipCR ?_)))))))
        refine X2 (v := .int .u8 3) (v' := .int .i64 ((idx dReq row (forB l)).getD 0 : Nat)) ?_
        have hs54 : St w0 (L) w52 := hs50.drop 5
        exact ⟨(by rw [chk_hit (j := 2) (by decide) hp.2 (show (look l row 2).isSome = true from h53)]; rfl), hs54⟩
      · refine GoC.skip (GoQ.blkN (GoQ.thn ?_))
        refine Xt (.rd 0 (.rd 1 .done)) ?_
        refine Xk [(0, .gen []), (1, .gen [])] [] [(36, .int .i64 3), (34, vl b10 0 7 7), (35, .int .i64 7)] ak0 ?_
        refine GoR.done ?_
        have hs55 : St w0 ((Cel b44 #[.int .u8 3, .func (.func 23) #[vp b7 0] #[]] 70) :: (Cel b10 #[.int .u8 1, .func (.func 19) #[] #[vp b1 0], .int .u8 2, .func (.func 22) #[vp b7 0] #[], .int .u8 3, .func (.func 23) #[vp b7 0] #[], .int .u8 4, .func (.func 24) #[] #[vp b4 0], .int .u8 5, .func (.func 27) #[vp b7 0] #[], .int .u8 6, .func (.func 28) #[vp b7 0] #[], .int .u8 7, .func (.func 29) #[vp b7 0] #[]] 70) :: (Cel b7 #[.slice al l.length cl, .slice ar row.length cr] 64) :: (Cel b4 #[.slice ar row.length cr] 23) :: (Cel b1 #[.slice al l.length cl] 22) :: L) w52 := (((((hs50.pull 4 rfl).pull 4 rfl).pull 2 rfl).pull 4 rfl).pull 4 rfl)
        have hs56 : St w0 ((Cel b10 #[.int .u8 1, .func (.func 19) #[] #[vp b1 0], .int .u8 2, .func (.func 22) #[vp b7 0] #[], .int .u8 3, .func (.func 23) #[vp b7 0] #[], .int .u8 4, .func (.func 24) #[] #[vp b4 0], .int .u8 5, .func (.func 27) #[vp b7 0] #[], .int .u8 6, .func (.func 28) #[vp b7 0] #[], .int .u8 7, .func (.func 29) #[vp b7 0] #[]] 70) :: (Cel b7 #[.slice al l.length cl, .slice ar row.length cr] 64) :: (Cel b4 #[.slice ar row.length cr] 23) :: (Cel b1 #[.slice al l.length cl] 22) :: L) w52 := hs55.drop 1
        exact GoQ.back 3 [34, 35, 36] (by kernel_rfl) (by decide) ⟨⟨by omega, chk_miss (j := 2) (by decide) hp.2 (show (look l row 2).isSome = false from h53)⟩, hs56⟩
    · refine GoC.slots (S' := [(37, .bool (decide (((3 : Nat) : Int) < 7))), (34, vl b10 0 7 7), (35, .int .i64 7), (36, .int .i64 3)]) rfl ?_
      refine GoC.skip (GoQ.thn (GoC.seq (GoC.block (GoC.seq ?_))))
      refine Xt (.rd 0 (.rd 1 (.ef 2 (.ef 3 .done)))) ?_
      refine Xk [(0, .as_ (vp b10 6) .at_), (1, .agg #[.int .u8 4, .func (.func 24) #[] #[vp b4 0]])] [(0, [.prop (0 ≤ (3 : Int) ∧ (3 : Int) < (7 : Int)), .prop (Value.pointer (some (Addr.add ⟨b10, 0, none⟩ (Int.toNat 3 * 2))) = Value.pointer (some ⟨b10, 6, none⟩))]), (1, [.prop (Array.size (#[.int .u8 4, .func (.func 24) #[] #[vp b4 0]] : Array Value) = 2), .cells ⟨b10, 6, none⟩ #[.int .u8 4, .func (.func 24) #[] #[vp b4 0]]])] [(39, .agg #[.int .u8 4, .func (.func 24) #[] #[vp b4 0]]), (34, vl b10 0 7 7), (35, .int .i64 7), (36, .int .i64 3)] (ak (okp (by omega) (okp (ptrAdd _ _ _) ok0)) (ak (okp (by kernel_rfl) (oka (hs16.cells 0 6 rfl (by kernel_rfl)) ok0)) ak0)) ?_
      refine GoR.alloc rfl rfl (by kernel_rfl) (z := .agg #[.int .u8 0, .nilFunc]) (by kernel_rfl) hs16 (cs := #[.int .u8 0, .nilFunc]) (by kernel_rfl) ?_
      intro b57 w58 hs59
      refine ⟨Xo, ?_⟩
      refine GoR.store rfl rfl (by kernel_rfl) (b := b57) (off := 0) (v := .agg #[.int .u8 4, .func (.func 24) #[] #[vp b4 0]]) (by kernel_rfl) (by kernel_rfl) (ti := Tryz.t70) (by kernel_rfl) hs59 0 rfl (by kernel_rfl) (by kernel_rfl) (Nat.le_of_ble_eq_true (by kernel_rfl)) (cs' := #[.int .u8 4, .func (.func 24) #[] #[vp b4 0]]) (L' := (Cel b57 #[.int .u8 4, .func (.func 24) #[] #[vp b4 0]] 70) :: (Cel b10 #[.int .u8 1, .func (.func 19) #[] #[vp b1 0], .int .u8 2, .func (.func 22) #[vp b7 0] #[], .int .u8 3, .func (.func 23) #[vp b7 0] #[], .int .u8 4, .func (.func 24) #[] #[vp b4 0], .int .u8 5, .func (.func 27) #[vp b7 0] #[], .int .u8 6, .func (.func 28) #[vp b7 0] #[], .int .u8 7, .func (.func 29) #[vp b7 0] #[]] 70) :: (Cel b7 #[.slice al l.length cl, .slice ar row.length cr] 64) :: (Cel b4 #[.slice ar row.length cr] 23) :: (Cel b1 #[.slice al l.length cl] 22) :: L) (by kernel_rfl) rfl ?_
      intro w60 hs61
      refine ⟨Xo, ?_⟩
      refine GoR.done (GoQ.thn (GoC.seq ?_))
      refine Xt (.rd 0 (.rd 1 (.ef 2 (.rd 3 (.rd 4 (.rd 5 (.rd 6 (.rd 7 .done)))))))) ?_
      refine Xk [(0, .gen []), (1, .gen [.func (.func 24) #[] #[vp b4 0]])] [(1, [.cell ⟨b57, 1, none⟩ (.func (.func 24) #[] #[vp b4 0])])] [(42, .func (.func 24) #[] #[vp b4 0]), (8, vp b57 0), (34, vl b10 0 7 7), (35, .int .i64 7), (36, .int .i64 3)] (ak (okc (hs61.cell 0 rfl (by kernel_rfl)) ok0) ak0) ?_
      have hs62 : St w0 ((Cel b4 #[.slice ar row.length cr] 23) :: (Cel b57 #[.int .u8 4, .func (.func 24) #[] #[vp b4 0]] 70) :: (Cel b10 #[.int .u8 1, .func (.func 19) #[] #[vp b1 0], .int .u8 2, .func (.func 22) #[vp b7 0] #[], .int .u8 3, .func (.func 23) #[vp b7 0] #[], .int .u8 4, .func (.func 24) #[] #[vp b4 0], .int .u8 5, .func (.func 27) #[vp b7 0] #[], .int .u8 6, .func (.func 28) #[vp b7 0] #[], .int .u8 7, .func (.func 29) #[vp b7 0] #[]] 70) :: (Cel b7 #[.slice al l.length cl, .slice ar row.length cr] 64) :: (Cel b1 #[.slice al l.length cl] 22) :: L) w60 := (hs61.pull 3 rfl)
      refine Xa (f := 24) (args := #[vp b4 0]) Tryz.call24 (chk2_spec row (by omega) (fun w h => hr2 _ (h.drop 4)) hs62) ?_
      rintro v64 w65 ⟨rfl, hs63⟩
      refine ⟨Xo, ?_⟩
      refine Xk [(3, .gen []), (4, .gen []), (5, .gen []), (6, .gen []), (7, .gen [])] [] [(10, .bool ((twO nameQ dReq row).isSome)), (9, .int .i64 ((twO nameQ dReq row).getD 0 : Nat)), (8, vp b57 0), (34, vl b10 0 7 7), (35, .int .i64 7), (36, .int .i64 3)] ak0 ?_
      refine GoR.done (GoQ.thn (GoC.seq ?_))
      refine Xt (.rd 0 .done) ?_
      refine Xk [(0, .gen [])] [] [(46, .bool ((twO nameQ dReq row).isSome)), (9, .int .i64 ((twO nameQ dReq row).getD 0 : Nat)), (8, vp b57 0), (34, vl b10 0 7 7), (35, .int .i64 7), (36, .int .i64 3)] ak0 ?_
      refine GoR.done (GoQ.thn ?_)
      refine Xc (t := (twO nameQ dReq row).isSome) (fun h66 => ?_) (fun h66 => ?_)
      · refine GoC.seq ?_
        refine Xt (.rd 0 (.rd 1 (.rd 2 (.rd 3 (.rd 4 .done))))) ?_
        refine Xk [(0, .gen []), (1, .gen [.int .u8 4]), (2, .gen []), (3, .gen []), (4, .gen [])] [(1, [.cell ⟨b57, 0, none⟩ (.int .u8 4)])] [(5, .int .i64 ((twO nameQ dReq row).getD 0 : Nat)), (4, .int .u8 4), (34, vl b10 0 7 7), (35, .int .i64 7), (36, .int .i64 3)] (ak (okc (hs63.cell 1 rfl (by kernel_rfl)) ok0) ak0) ?_
        refine GoR.done (GoQ.thn (GoC.ret (GoQ.blkR (GoQ.skipCR (GoQ.skipLR (GoQ.blkR (GoQ.skipCR ?_)))))))
        refine X2 (v := .int .u8 4) (v' := .int .i64 ((twO nameQ dReq row).getD 0 : Nat)) ?_
        have hs67 : St w0 (L) w65 := hs63.drop 5
        exact ⟨(by rw [chk_hit (j := 3) (by decide) hp.2 (show (look l row 3).isSome = true from h66)]; rfl), hs67⟩
      · refine GoC.skip (GoQ.blkN (GoQ.thn ?_))
        refine Xt (.rd 0 (.rd 1 .done)) ?_
        refine Xk [(0, .gen []), (1, .gen [])] [] [(36, .int .i64 4), (34, vl b10 0 7 7), (35, .int .i64 7)] ak0 ?_
        refine GoR.done ?_
        have hs68 : St w0 ((Cel b57 #[.int .u8 4, .func (.func 24) #[] #[vp b4 0]] 70) :: (Cel b10 #[.int .u8 1, .func (.func 19) #[] #[vp b1 0], .int .u8 2, .func (.func 22) #[vp b7 0] #[], .int .u8 3, .func (.func 23) #[vp b7 0] #[], .int .u8 4, .func (.func 24) #[] #[vp b4 0], .int .u8 5, .func (.func 27) #[vp b7 0] #[], .int .u8 6, .func (.func 28) #[vp b7 0] #[], .int .u8 7, .func (.func 29) #[vp b7 0] #[]] 70) :: (Cel b7 #[.slice al l.length cl, .slice ar row.length cr] 64) :: (Cel b4 #[.slice ar row.length cr] 23) :: (Cel b1 #[.slice al l.length cl] 22) :: L) w65 := (((((hs63.pull 4 rfl).pull 1 rfl).pull 4 rfl).pull 4 rfl).pull 4 rfl)
        have hs69 : St w0 ((Cel b10 #[.int .u8 1, .func (.func 19) #[] #[vp b1 0], .int .u8 2, .func (.func 22) #[vp b7 0] #[], .int .u8 3, .func (.func 23) #[vp b7 0] #[], .int .u8 4, .func (.func 24) #[] #[vp b4 0], .int .u8 5, .func (.func 27) #[vp b7 0] #[], .int .u8 6, .func (.func 28) #[vp b7 0] #[], .int .u8 7, .func (.func 29) #[vp b7 0] #[]] 70) :: (Cel b7 #[.slice al l.length cl, .slice ar row.length cr] 64) :: (Cel b4 #[.slice ar row.length cr] 23) :: (Cel b1 #[.slice al l.length cl] 22) :: L) w65 := hs68.drop 1
        exact GoQ.back 4 [34, 35, 36] (by kernel_rfl) (by decide) ⟨⟨by omega, chk_miss (j := 3) (by decide) hp.2 (show (look l row 3).isSome = false from h66)⟩, hs69⟩
    · refine GoC.slots (S' := [(37, .bool (decide (((4 : Nat) : Int) < 7))), (34, vl b10 0 7 7), (35, .int .i64 7), (36, .int .i64 4)]) rfl ?_
      refine GoC.skip (GoQ.thn (GoC.seq (GoC.block (GoC.seq ?_))))
      refine Xt (.rd 0 (.rd 1 (.ef 2 (.ef 3 .done)))) ?_
      refine Xk [(0, .as_ (vp b10 8) .at_), (1, .agg #[.int .u8 5, .func (.func 27) #[vp b7 0] #[]])] [(0, [.prop (0 ≤ (4 : Int) ∧ (4 : Int) < (7 : Int)), .prop (Value.pointer (some (Addr.add ⟨b10, 0, none⟩ (Int.toNat 4 * 2))) = Value.pointer (some ⟨b10, 8, none⟩))]), (1, [.prop (Array.size (#[.int .u8 5, .func (.func 27) #[vp b7 0] #[]] : Array Value) = 2), .cells ⟨b10, 8, none⟩ #[.int .u8 5, .func (.func 27) #[vp b7 0] #[]]])] [(39, .agg #[.int .u8 5, .func (.func 27) #[vp b7 0] #[]]), (34, vl b10 0 7 7), (35, .int .i64 7), (36, .int .i64 4)] (ak (okp (by omega) (okp (ptrAdd _ _ _) ok0)) (ak (okp (by kernel_rfl) (oka (hs16.cells 0 8 rfl (by kernel_rfl)) ok0)) ak0)) ?_
      refine GoR.alloc rfl rfl (by kernel_rfl) (z := .agg #[.int .u8 0, .nilFunc]) (by kernel_rfl) hs16 (cs := #[.int .u8 0, .nilFunc]) (by kernel_rfl) ?_
      intro b70 w71 hs72
      refine ⟨Xo, ?_⟩
      refine GoR.store rfl rfl (by kernel_rfl) (b := b70) (off := 0) (v := .agg #[.int .u8 5, .func (.func 27) #[vp b7 0] #[]]) (by kernel_rfl) (by kernel_rfl) (ti := Tryz.t70) (by kernel_rfl) hs72 0 rfl (by kernel_rfl) (by kernel_rfl) (Nat.le_of_ble_eq_true (by kernel_rfl)) (cs' := #[.int .u8 5, .func (.func 27) #[vp b7 0] #[]]) (L' := (Cel b70 #[.int .u8 5, .func (.func 27) #[vp b7 0] #[]] 70) :: (Cel b10 #[.int .u8 1, .func (.func 19) #[] #[vp b1 0], .int .u8 2, .func (.func 22) #[vp b7 0] #[], .int .u8 3, .func (.func 23) #[vp b7 0] #[], .int .u8 4, .func (.func 24) #[] #[vp b4 0], .int .u8 5, .func (.func 27) #[vp b7 0] #[], .int .u8 6, .func (.func 28) #[vp b7 0] #[], .int .u8 7, .func (.func 29) #[vp b7 0] #[]] 70) :: (Cel b7 #[.slice al l.length cl, .slice ar row.length cr] 64) :: (Cel b4 #[.slice ar row.length cr] 23) :: (Cel b1 #[.slice al l.length cl] 22) :: L) (by kernel_rfl) rfl ?_
      intro w73 hs74
      refine ⟨Xo, ?_⟩
      refine GoR.done (GoQ.thn (GoC.seq ?_))
      refine Xt (.rd 0 (.rd 1 (.ef 2 (.rd 3 (.rd 4 (.rd 5 (.rd 6 (.rd 7 .done)))))))) ?_
      refine Xk [(0, .gen []), (1, .gen [.func (.func 27) #[vp b7 0] #[]])] [(1, [.cell ⟨b70, 1, none⟩ (.func (.func 27) #[vp b7 0] #[])])] [(42, .func (.func 27) #[vp b7 0] #[]), (8, vp b70 0), (34, vl b10 0 7 7), (35, .int .i64 7), (36, .int .i64 4)] (ak (okc (hs74.cell 0 rfl (by kernel_rfl)) ok0) ak0) ?_
      have hs75 : St w0 ((Cel b7 #[.slice al l.length cl, .slice ar row.length cr] 64) :: (Cel b70 #[.int .u8 5, .func (.func 27) #[vp b7 0] #[]] 70) :: (Cel b10 #[.int .u8 1, .func (.func 19) #[] #[vp b1 0], .int .u8 2, .func (.func 22) #[vp b7 0] #[], .int .u8 3, .func (.func 23) #[vp b7 0] #[], .int .u8 4, .func (.func 24) #[] #[vp b4 0], .int .u8 5, .func (.func 27) #[vp b7 0] #[], .int .u8 6, .func (.func 28) #[vp b7 0] #[], .int .u8 7, .func (.func 29) #[vp b7 0] #[]] 70) :: (Cel b4 #[.slice ar row.length cr] 23) :: (Cel b1 #[.slice al l.length cl] 22) :: L) w73 := (hs74.pull 2 rfl)
      refine Xa (f := 27) (args := #[vp b7 0]) Tryz.call27 (missing_spec l row (by omega) (by omega) (fun w h => hr1 _ (h.drop 4)) (fun w h => hr2 _ (h.drop 4)) hs75) ?_
      rintro v77 w78 ⟨rfl, hs76⟩
      refine ⟨Xo, ?_⟩
      refine Xk [(3, .gen []), (4, .gen []), (5, .gen []), (6, .gen []), (7, .gen [])] [] [(10, .bool ((idx dCall l (missB row)).isSome)), (9, .int .i64 ((idx dCall l (missB row)).getD 0 : Nat)), (8, vp b70 0), (34, vl b10 0 7 7), (35, .int .i64 7), (36, .int .i64 4)] ak0 ?_
      refine GoR.done (GoQ.thn (GoC.seq ?_))
      refine Xt (.rd 0 .done) ?_
      refine Xk [(0, .gen [])] [] [(46, .bool ((idx dCall l (missB row)).isSome)), (9, .int .i64 ((idx dCall l (missB row)).getD 0 : Nat)), (8, vp b70 0), (34, vl b10 0 7 7), (35, .int .i64 7), (36, .int .i64 4)] ak0 ?_
      refine GoR.done (GoQ.thn ?_)
      refine Xc (t := (idx dCall l (missB row)).isSome) (fun h79 => ?_) (fun h79 => ?_)
      · refine GoC.seq ?_
        refine Xt (.rd 0 (.rd 1 (.rd 2 (.rd 3 (.rd 4 .done))))) ?_
        refine Xk [(0, .gen []), (1, .gen [.int .u8 5]), (2, .gen []), (3, .gen []), (4, .gen [])] [(1, [.cell ⟨b70, 0, none⟩ (.int .u8 5)])] [(5, .int .i64 ((idx dCall l (missB row)).getD 0 : Nat)), (4, .int .u8 5), (34, vl b10 0 7 7), (35, .int .i64 7), (36, .int .i64 4)] (ak (okc (hs76.cell 1 rfl (by kernel_rfl)) ok0) ak0) ?_
        refine GoR.done (GoQ.thn (GoC.ret (GoQ.blkR (GoQ.skipCR (GoQ.skipLR (GoQ.blkR (GoQ.skipCR ?_)))))))
        refine X2 (v := .int .u8 5) (v' := .int .i64 ((idx dCall l (missB row)).getD 0 : Nat)) ?_
        have hs80 : St w0 (L) w78 := hs76.drop 5
        exact ⟨(by rw [chk_hit (j := 4) (by decide) hp.2 (show (look l row 4).isSome = true from h79)]; rfl), hs80⟩
      · refine GoC.skip (GoQ.blkN (GoQ.thn ?_))
        refine Xt (.rd 0 (.rd 1 .done)) ?_
        refine Xk [(0, .gen []), (1, .gen [])] [] [(36, .int .i64 5), (34, vl b10 0 7 7), (35, .int .i64 7)] ak0 ?_
        refine GoR.done ?_
        have hs81 : St w0 ((Cel b70 #[.int .u8 5, .func (.func 27) #[vp b7 0] #[]] 70) :: (Cel b10 #[.int .u8 1, .func (.func 19) #[] #[vp b1 0], .int .u8 2, .func (.func 22) #[vp b7 0] #[], .int .u8 3, .func (.func 23) #[vp b7 0] #[], .int .u8 4, .func (.func 24) #[] #[vp b4 0], .int .u8 5, .func (.func 27) #[vp b7 0] #[], .int .u8 6, .func (.func 28) #[vp b7 0] #[], .int .u8 7, .func (.func 29) #[vp b7 0] #[]] 70) :: (Cel b7 #[.slice al l.length cl, .slice ar row.length cr] 64) :: (Cel b4 #[.slice ar row.length cr] 23) :: (Cel b1 #[.slice al l.length cl] 22) :: L) w78 := (((((hs76.pull 4 rfl).pull 4 rfl).pull 2 rfl).pull 4 rfl).pull 4 rfl)
        have hs82 : St w0 ((Cel b10 #[.int .u8 1, .func (.func 19) #[] #[vp b1 0], .int .u8 2, .func (.func 22) #[vp b7 0] #[], .int .u8 3, .func (.func 23) #[vp b7 0] #[], .int .u8 4, .func (.func 24) #[] #[vp b4 0], .int .u8 5, .func (.func 27) #[vp b7 0] #[], .int .u8 6, .func (.func 28) #[vp b7 0] #[], .int .u8 7, .func (.func 29) #[vp b7 0] #[]] 70) :: (Cel b7 #[.slice al l.length cl, .slice ar row.length cr] 64) :: (Cel b4 #[.slice ar row.length cr] 23) :: (Cel b1 #[.slice al l.length cl] 22) :: L) w78 := hs81.drop 1
        exact GoQ.back 5 [34, 35, 36] (by kernel_rfl) (by decide) ⟨⟨by omega, chk_miss (j := 4) (by decide) hp.2 (show (look l row 4).isSome = false from h79)⟩, hs82⟩
    · refine GoC.slots (S' := [(37, .bool (decide (((5 : Nat) : Int) < 7))), (34, vl b10 0 7 7), (35, .int .i64 7), (36, .int .i64 5)]) rfl ?_
      refine GoC.skip (GoQ.thn (GoC.seq (GoC.block (GoC.seq ?_))))
      refine Xt (.rd 0 (.rd 1 (.ef 2 (.ef 3 .done)))) ?_
      refine Xk [(0, .as_ (vp b10 10) .at_), (1, .agg #[.int .u8 6, .func (.func 28) #[vp b7 0] #[]])] [(0, [.prop (0 ≤ (5 : Int) ∧ (5 : Int) < (7 : Int)), .prop (Value.pointer (some (Addr.add ⟨b10, 0, none⟩ (Int.toNat 5 * 2))) = Value.pointer (some ⟨b10, 10, none⟩))]), (1, [.prop (Array.size (#[.int .u8 6, .func (.func 28) #[vp b7 0] #[]] : Array Value) = 2), .cells ⟨b10, 10, none⟩ #[.int .u8 6, .func (.func 28) #[vp b7 0] #[]]])] [(39, .agg #[.int .u8 6, .func (.func 28) #[vp b7 0] #[]]), (34, vl b10 0 7 7), (35, .int .i64 7), (36, .int .i64 5)] (ak (okp (by omega) (okp (ptrAdd _ _ _) ok0)) (ak (okp (by kernel_rfl) (oka (hs16.cells 0 10 rfl (by kernel_rfl)) ok0)) ak0)) ?_
      refine GoR.alloc rfl rfl (by kernel_rfl) (z := .agg #[.int .u8 0, .nilFunc]) (by kernel_rfl) hs16 (cs := #[.int .u8 0, .nilFunc]) (by kernel_rfl) ?_
      intro b83 w84 hs85
      refine ⟨Xo, ?_⟩
      refine GoR.store rfl rfl (by kernel_rfl) (b := b83) (off := 0) (v := .agg #[.int .u8 6, .func (.func 28) #[vp b7 0] #[]]) (by kernel_rfl) (by kernel_rfl) (ti := Tryz.t70) (by kernel_rfl) hs85 0 rfl (by kernel_rfl) (by kernel_rfl) (Nat.le_of_ble_eq_true (by kernel_rfl)) (cs' := #[.int .u8 6, .func (.func 28) #[vp b7 0] #[]]) (L' := (Cel b83 #[.int .u8 6, .func (.func 28) #[vp b7 0] #[]] 70) :: (Cel b10 #[.int .u8 1, .func (.func 19) #[] #[vp b1 0], .int .u8 2, .func (.func 22) #[vp b7 0] #[], .int .u8 3, .func (.func 23) #[vp b7 0] #[], .int .u8 4, .func (.func 24) #[] #[vp b4 0], .int .u8 5, .func (.func 27) #[vp b7 0] #[], .int .u8 6, .func (.func 28) #[vp b7 0] #[], .int .u8 7, .func (.func 29) #[vp b7 0] #[]] 70) :: (Cel b7 #[.slice al l.length cl, .slice ar row.length cr] 64) :: (Cel b4 #[.slice ar row.length cr] 23) :: (Cel b1 #[.slice al l.length cl] 22) :: L) (by kernel_rfl) rfl ?_
      intro w86 hs87
      refine ⟨Xo, ?_⟩
      refine GoR.done (GoQ.thn (GoC.seq ?_))
      refine Xt (.rd 0 (.rd 1 (.ef 2 (.rd 3 (.rd 4 (.rd 5 (.rd 6 (.rd 7 .done)))))))) ?_
      refine Xk [(0, .gen []), (1, .gen [.func (.func 28) #[vp b7 0] #[]])] [(1, [.cell ⟨b83, 1, none⟩ (.func (.func 28) #[vp b7 0] #[])])] [(42, .func (.func 28) #[vp b7 0] #[]), (8, vp b83 0), (34, vl b10 0 7 7), (35, .int .i64 7), (36, .int .i64 5)] (ak (okc (hs87.cell 0 rfl (by kernel_rfl)) ok0) ak0) ?_
      have hs88 : St w0 ((Cel b7 #[.slice al l.length cl, .slice ar row.length cr] 64) :: (Cel b83 #[.int .u8 6, .func (.func 28) #[vp b7 0] #[]] 70) :: (Cel b10 #[.int .u8 1, .func (.func 19) #[] #[vp b1 0], .int .u8 2, .func (.func 22) #[vp b7 0] #[], .int .u8 3, .func (.func 23) #[vp b7 0] #[], .int .u8 4, .func (.func 24) #[] #[vp b4 0], .int .u8 5, .func (.func 27) #[vp b7 0] #[], .int .u8 6, .func (.func 28) #[vp b7 0] #[], .int .u8 7, .func (.func 29) #[vp b7 0] #[]] 70) :: (Cel b4 #[.slice ar row.length cr] 23) :: (Cel b1 #[.slice al l.length cl] 22) :: L) w86 := (hs87.pull 2 rfl)
      refine Xa (f := 28) (args := #[vp b7 0]) Tryz.call28 (other_spec l row (by omega) (by omega) hok (fun w h => hL w (h.drop 4)) (fun w h => hr1 _ (h.drop 4)) (fun w h => hr2 _ (h.drop 4)) hs88) ?_
      rintro v90 w91 ⟨rfl, hs89⟩
      refine ⟨Xo, ?_⟩
      refine Xk [(3, .gen []), (4, .gen []), (5, .gen []), (6, .gen []), (7, .gen [])] [] [(10, .bool ((idx dCall l (othB (repM row row.length) row)).isSome)), (9, .int .i64 ((idx dCall l (othB (repM row row.length) row)).getD 0 : Nat)), (8, vp b83 0), (34, vl b10 0 7 7), (35, .int .i64 7), (36, .int .i64 5)] ak0 ?_
      refine GoR.done (GoQ.thn (GoC.seq ?_))
      refine Xt (.rd 0 .done) ?_
      refine Xk [(0, .gen [])] [] [(46, .bool ((idx dCall l (othB (repM row row.length) row)).isSome)), (9, .int .i64 ((idx dCall l (othB (repM row row.length) row)).getD 0 : Nat)), (8, vp b83 0), (34, vl b10 0 7 7), (35, .int .i64 7), (36, .int .i64 5)] ak0 ?_
      refine GoR.done (GoQ.thn ?_)
      refine Xc (t := (idx dCall l (othB (repM row row.length) row)).isSome) (fun h92 => ?_) (fun h92 => ?_)
      · refine GoC.seq ?_
        refine Xt (.rd 0 (.rd 1 (.rd 2 (.rd 3 (.rd 4 .done))))) ?_
        refine Xk [(0, .gen []), (1, .gen [.int .u8 6]), (2, .gen []), (3, .gen []), (4, .gen [])] [(1, [.cell ⟨b83, 0, none⟩ (.int .u8 6)])] [(5, .int .i64 ((idx dCall l (othB (repM row row.length) row)).getD 0 : Nat)), (4, .int .u8 6), (34, vl b10 0 7 7), (35, .int .i64 7), (36, .int .i64 5)] (ak (okc (hs89.cell 1 rfl (by kernel_rfl)) ok0) ak0) ?_
        refine GoR.done (GoQ.thn (GoC.ret (GoQ.blkR (GoQ.skipCR (GoQ.skipLR (GoQ.blkR (GoQ.skipCR ?_)))))))
        refine X2 (v := .int .u8 6) (v' := .int .i64 ((idx dCall l (othB (repM row row.length) row)).getD 0 : Nat)) ?_
        have hs93 : St w0 (L) w91 := hs89.drop 5
        exact ⟨(by rw [chk_hit (j := 5) (by decide) hp.2 (show (look l row 5).isSome = true from h92)]; rfl), hs93⟩
      · refine GoC.skip (GoQ.blkN (GoQ.thn ?_))
        refine Xt (.rd 0 (.rd 1 .done)) ?_
        refine Xk [(0, .gen []), (1, .gen [])] [] [(36, .int .i64 6), (34, vl b10 0 7 7), (35, .int .i64 7)] ak0 ?_
        refine GoR.done ?_
        have hs94 : St w0 ((Cel b83 #[.int .u8 6, .func (.func 28) #[vp b7 0] #[]] 70) :: (Cel b10 #[.int .u8 1, .func (.func 19) #[] #[vp b1 0], .int .u8 2, .func (.func 22) #[vp b7 0] #[], .int .u8 3, .func (.func 23) #[vp b7 0] #[], .int .u8 4, .func (.func 24) #[] #[vp b4 0], .int .u8 5, .func (.func 27) #[vp b7 0] #[], .int .u8 6, .func (.func 28) #[vp b7 0] #[], .int .u8 7, .func (.func 29) #[vp b7 0] #[]] 70) :: (Cel b7 #[.slice al l.length cl, .slice ar row.length cr] 64) :: (Cel b4 #[.slice ar row.length cr] 23) :: (Cel b1 #[.slice al l.length cl] 22) :: L) w91 := (((((hs89.pull 4 rfl).pull 4 rfl).pull 2 rfl).pull 4 rfl).pull 4 rfl)
        have hs95 : St w0 ((Cel b10 #[.int .u8 1, .func (.func 19) #[] #[vp b1 0], .int .u8 2, .func (.func 22) #[vp b7 0] #[], .int .u8 3, .func (.func 23) #[vp b7 0] #[], .int .u8 4, .func (.func 24) #[] #[vp b4 0], .int .u8 5, .func (.func 27) #[vp b7 0] #[], .int .u8 6, .func (.func 28) #[vp b7 0] #[], .int .u8 7, .func (.func 29) #[vp b7 0] #[]] 70) :: (Cel b7 #[.slice al l.length cl, .slice ar row.length cr] 64) :: (Cel b4 #[.slice ar row.length cr] 23) :: (Cel b1 #[.slice al l.length cl] 22) :: L) w91 := hs94.drop 1
        exact GoQ.back 6 [34, 35, 36] (by kernel_rfl) (by decide) ⟨⟨by omega, chk_miss (j := 5) (by decide) hp.2 (show (look l row 5).isSome = false from h92)⟩, hs95⟩
    · refine GoC.slots (S' := [(37, .bool (decide (((6 : Nat) : Int) < 7))), (34, vl b10 0 7 7), (35, .int .i64 7), (36, .int .i64 6)]) rfl ?_
      refine GoC.skip (GoQ.thn (GoC.seq (GoC.block (GoC.seq ?_))))
      refine Xt (.rd 0 (.rd 1 (.ef 2 (.ef 3 .done)))) ?_
      refine Xk [(0, .as_ (vp b10 12) .at_), (1, .agg #[.int .u8 7, .func (.func 29) #[vp b7 0] #[]])] [(0, [.prop (0 ≤ (6 : Int) ∧ (6 : Int) < (7 : Int)), .prop (Value.pointer (some (Addr.add ⟨b10, 0, none⟩ (Int.toNat 6 * 2))) = Value.pointer (some ⟨b10, 12, none⟩))]), (1, [.prop (Array.size (#[.int .u8 7, .func (.func 29) #[vp b7 0] #[]] : Array Value) = 2), .cells ⟨b10, 12, none⟩ #[.int .u8 7, .func (.func 29) #[vp b7 0] #[]]])] [(39, .agg #[.int .u8 7, .func (.func 29) #[vp b7 0] #[]]), (34, vl b10 0 7 7), (35, .int .i64 7), (36, .int .i64 6)] (ak (okp (by omega) (okp (ptrAdd _ _ _) ok0)) (ak (okp (by kernel_rfl) (oka (hs16.cells 0 12 rfl (by kernel_rfl)) ok0)) ak0)) ?_
      refine GoR.alloc rfl rfl (by kernel_rfl) (z := .agg #[.int .u8 0, .nilFunc]) (by kernel_rfl) hs16 (cs := #[.int .u8 0, .nilFunc]) (by kernel_rfl) ?_
      intro b96 w97 hs98
      refine ⟨Xo, ?_⟩
      refine GoR.store rfl rfl (by kernel_rfl) (b := b96) (off := 0) (v := .agg #[.int .u8 7, .func (.func 29) #[vp b7 0] #[]]) (by kernel_rfl) (by kernel_rfl) (ti := Tryz.t70) (by kernel_rfl) hs98 0 rfl (by kernel_rfl) (by kernel_rfl) (Nat.le_of_ble_eq_true (by kernel_rfl)) (cs' := #[.int .u8 7, .func (.func 29) #[vp b7 0] #[]]) (L' := (Cel b96 #[.int .u8 7, .func (.func 29) #[vp b7 0] #[]] 70) :: (Cel b10 #[.int .u8 1, .func (.func 19) #[] #[vp b1 0], .int .u8 2, .func (.func 22) #[vp b7 0] #[], .int .u8 3, .func (.func 23) #[vp b7 0] #[], .int .u8 4, .func (.func 24) #[] #[vp b4 0], .int .u8 5, .func (.func 27) #[vp b7 0] #[], .int .u8 6, .func (.func 28) #[vp b7 0] #[], .int .u8 7, .func (.func 29) #[vp b7 0] #[]] 70) :: (Cel b7 #[.slice al l.length cl, .slice ar row.length cr] 64) :: (Cel b4 #[.slice ar row.length cr] 23) :: (Cel b1 #[.slice al l.length cl] 22) :: L) (by kernel_rfl) rfl ?_
      intro w99 hs100
      refine ⟨Xo, ?_⟩
      refine GoR.done (GoQ.thn (GoC.seq ?_))
      refine Xt (.rd 0 (.rd 1 (.ef 2 (.rd 3 (.rd 4 (.rd 5 (.rd 6 (.rd 7 .done)))))))) ?_
      refine Xk [(0, .gen []), (1, .gen [.func (.func 29) #[vp b7 0] #[]])] [(1, [.cell ⟨b96, 1, none⟩ (.func (.func 29) #[vp b7 0] #[])])] [(42, .func (.func 29) #[vp b7 0] #[]), (8, vp b96 0), (34, vl b10 0 7 7), (35, .int .i64 7), (36, .int .i64 6)] (ak (okc (hs100.cell 0 rfl (by kernel_rfl)) ok0) ak0) ?_
      have hs101 : St w0 ((Cel b7 #[.slice al l.length cl, .slice ar row.length cr] 64) :: (Cel b96 #[.int .u8 7, .func (.func 29) #[vp b7 0] #[]] 70) :: (Cel b10 #[.int .u8 1, .func (.func 19) #[] #[vp b1 0], .int .u8 2, .func (.func 22) #[vp b7 0] #[], .int .u8 3, .func (.func 23) #[vp b7 0] #[], .int .u8 4, .func (.func 24) #[] #[vp b4 0], .int .u8 5, .func (.func 27) #[vp b7 0] #[], .int .u8 6, .func (.func 28) #[vp b7 0] #[], .int .u8 7, .func (.func 29) #[vp b7 0] #[]] 70) :: (Cel b4 #[.slice ar row.length cr] 23) :: (Cel b1 #[.slice al l.length cl] 22) :: L) w99 := (hs100.pull 2 rfl)
      refine Xa (f := 29) (args := #[vp b7 0]) Tryz.call29 (early_spec l row (by omega) (by omega) (fun w h => hr1 _ (h.drop 4)) (fun w h => hr2 _ (h.drop 4)) hs101) ?_
      rintro v103 w104 ⟨rfl, hs102⟩
      refine ⟨Xo, ?_⟩
      refine Xk [(3, .gen []), (4, .gen []), (5, .gen []), (6, .gen []), (7, .gen [])] [] [(10, .bool ((idx dCall l (earB l row)).isSome)), (9, .int .i64 ((idx dCall l (earB l row)).getD 0 : Nat)), (8, vp b96 0), (34, vl b10 0 7 7), (35, .int .i64 7), (36, .int .i64 6)] ak0 ?_
      refine GoR.done (GoQ.thn (GoC.seq ?_))
      refine Xt (.rd 0 .done) ?_
      refine Xk [(0, .gen [])] [] [(46, .bool ((idx dCall l (earB l row)).isSome)), (9, .int .i64 ((idx dCall l (earB l row)).getD 0 : Nat)), (8, vp b96 0), (34, vl b10 0 7 7), (35, .int .i64 7), (36, .int .i64 6)] ak0 ?_
      refine GoR.done (GoQ.thn ?_)
      refine Xc (t := (idx dCall l (earB l row)).isSome) (fun h105 => ?_) (fun h105 => ?_)
      · refine GoC.seq ?_
        refine Xt (.rd 0 (.rd 1 (.rd 2 (.rd 3 (.rd 4 .done))))) ?_
        refine Xk [(0, .gen []), (1, .gen [.int .u8 7]), (2, .gen []), (3, .gen []), (4, .gen [])] [(1, [.cell ⟨b96, 0, none⟩ (.int .u8 7)])] [(5, .int .i64 ((idx dCall l (earB l row)).getD 0 : Nat)), (4, .int .u8 7), (34, vl b10 0 7 7), (35, .int .i64 7), (36, .int .i64 6)] (ak (okc (hs102.cell 1 rfl (by kernel_rfl)) ok0) ak0) ?_
        refine GoR.done (GoQ.thn (GoC.ret (GoQ.blkR (GoQ.skipCR (GoQ.skipLR (GoQ.blkR (GoQ.skipCR ?_)))))))
        refine X2 (v := .int .u8 7) (v' := .int .i64 ((idx dCall l (earB l row)).getD 0 : Nat)) ?_
        have hs106 : St w0 (L) w104 := hs102.drop 5
        exact ⟨(by rw [chk_hit (j := 6) (by decide) hp.2 (show (look l row 6).isSome = true from h105)]; rfl), hs106⟩
      · refine GoC.skip (GoQ.blkN (GoQ.thn ?_))
        refine Xt (.rd 0 (.rd 1 .done)) ?_
        refine Xk [(0, .gen []), (1, .gen [])] [] [(36, .int .i64 7), (34, vl b10 0 7 7), (35, .int .i64 7)] ak0 ?_
        refine GoR.done ?_
        have hs107 : St w0 ((Cel b96 #[.int .u8 7, .func (.func 29) #[vp b7 0] #[]] 70) :: (Cel b10 #[.int .u8 1, .func (.func 19) #[] #[vp b1 0], .int .u8 2, .func (.func 22) #[vp b7 0] #[], .int .u8 3, .func (.func 23) #[vp b7 0] #[], .int .u8 4, .func (.func 24) #[] #[vp b4 0], .int .u8 5, .func (.func 27) #[vp b7 0] #[], .int .u8 6, .func (.func 28) #[vp b7 0] #[], .int .u8 7, .func (.func 29) #[vp b7 0] #[]] 70) :: (Cel b7 #[.slice al l.length cl, .slice ar row.length cr] 64) :: (Cel b4 #[.slice ar row.length cr] 23) :: (Cel b1 #[.slice al l.length cl] 22) :: L) w104 := (((((hs102.pull 4 rfl).pull 4 rfl).pull 2 rfl).pull 4 rfl).pull 4 rfl)
        have hs108 : St w0 ((Cel b10 #[.int .u8 1, .func (.func 19) #[] #[vp b1 0], .int .u8 2, .func (.func 22) #[vp b7 0] #[], .int .u8 3, .func (.func 23) #[vp b7 0] #[], .int .u8 4, .func (.func 24) #[] #[vp b4 0], .int .u8 5, .func (.func 27) #[vp b7 0] #[], .int .u8 6, .func (.func 28) #[vp b7 0] #[], .int .u8 7, .func (.func 29) #[vp b7 0] #[]] 70) :: (Cel b7 #[.slice al l.length cl, .slice ar row.length cr] 64) :: (Cel b4 #[.slice ar row.length cr] 23) :: (Cel b1 #[.slice al l.length cl] 22) :: L) w104 := hs107.drop 1
        exact GoQ.back 7 [34, 35, 36] (by kernel_rfl) (by decide) ⟨⟨by omega, chk_miss (j := 6) (by decide) hp.2 (show (look l row 6).isSome = false from h105)⟩, hs108⟩
  · have h17' : ¬ (((k : Nat) : Int) < 7) := of_decide_eq_false h17
    have hend : chkV l row = (0, 0) := by rw [hp.2, show 7 - k = 0 by omega]; rfl
    refine GoC.exit (GoQ.skipC (GoQ.skipL (GoQ.hit (GoQ.thn (GoC.seq ?_)))))
    refine Xt (.rd 0 (.rd 1 .done)) ?_
    refine Xk [(0, .gen []), (1, .gen [])] [] [(5, .int .i64 0), (4, .int .u8 0)] ak0 ?_
    refine GoR.done (GoQ.thn (GoC.ret ?_))
    refine X2 (v := .int .u8 0) (v' := .int .i64 0) ?_
    have hs109 : St w0 (L) w14 := hs16.drop 4
    exact ⟨(by rw [hend]), hs109⟩
end Go.Proofs.YtbmmknchcdhefaaGreatDoor
