/-
  The anchor is true. Conditions: none beside each theorem's own.
-/
import Derived.Test.YtbmmknchcdhefaaGreatDoorSxT
import Derived.Test.YtbmmknchcdhefaaGreatDoorHisH
namespace Go.Proofs.YtbmmknchcdhefaaGreatDoor
open Go.RowKit Go.Sx
set_option linter.unusedVariables false
set_option linter.unusedSimpArgs false
set_option linter.unnecessarySimpa false
set_option maxRecDepth 100000
abbrev wPut : CallV := ⟨1, 1, ⟨2, ⟨#[97]⟩, ⟨#[49]⟩, ⟨#[]⟩, ⟨#[]⟩, 0⟩, 1, 2, true, ⟨0, ⟨#[]⟩⟩⟩
abbrev wGet : CallV := ⟨2, 1, ⟨1, ⟨#[97]⟩, ⟨#[]⟩, ⟨#[]⟩, ⟨#[]⟩, 0⟩, 3, 4, true, ⟨0, ⟨#[49]⟩⟩⟩
abbrev wA : ReqV := reqOf wPut
abbrev wB : ReqV := reqOf wGet
theorem works_a : chkV [(wPut : CallV), (wGet : CallV)] [(wA : ReqV), (wB : ReqV)] = (0, 0) := by decide +kernel
theorem works_b : chkV [(wPut : CallV), (wGet : CallV)] [(wB : ReqV), (wA : ReqV)] = (6, 1) := by decide +kernel
theorem works_c : findF [(wPut : CallV), (wGet : CallV)] = some [0, 1] := by decide +kernel
theorem works_d : (findF [(wPut : CallV), (wGet : CallV)]).getD [] = [0, 1] := by rw [works_c]; rfl
theorem works_spec {w0 w : World} {L : List Asn} (hL : ∀ w, St w0 L w → Laid w) (hs : St w0 (L) w) : Calls Tryz.prog 8 #[] w (Ret fun rv w' => rv = .bool true ∧ St w0 (L) w') := by
  refine enter (args := []) Tryz.func8 rfl Tryz.ntmps8 (Nat.le_of_ble_eq_true (by kernel_rfl)) ?_
  refine GoC.slots (S' := []) rfl ?_
  refine GoC.seq ?_
  refine Xt (.rd 0 .done) ?_
  refine Xk [(0, .gen [])] [] [(0, .bool false)] ak0 ?_
  refine GoR.done (GoQ.thn (GoC.seq ?_))
  refine Xt (.rd 0 (.rd 1 (.ef 2 (.ef 3 .done)))) ?_
  refine Xk [(0, .gen []), (1, .gen [])] [] [(13, .agg #[.int .i64 1, .int .u64 1, .int .u8 2, .string (⟨#[97]⟩ : ByteArray), .string (⟨#[49]⟩ : ByteArray), .string (⟨#[]⟩ : ByteArray), .string (⟨#[]⟩ : ByteArray), .int .u64 0, .int .u64 1, .int .u64 2, .bool true, .int .i64 0, .string (⟨#[]⟩ : ByteArray)]), (0, .bool false)] ak0 ?_
  refine GoR.alloc rfl rfl (by kernel_rfl) (z := .agg (CallV.cells dCall)) (by kernel_rfl) hs (cs := CallV.cells dCall) (by kernel_rfl) ?_
  intro b1 w2 hs3
  refine ⟨Xo, ?_⟩
  refine GoR.store rfl rfl (by kernel_rfl) (b := b1) (off := 0) (v := .agg #[.int .i64 1, .int .u64 1, .int .u8 2, .string (⟨#[97]⟩ : ByteArray), .string (⟨#[49]⟩ : ByteArray), .string (⟨#[]⟩ : ByteArray), .string (⟨#[]⟩ : ByteArray), .int .u64 0, .int .u64 1, .int .u64 2, .bool true, .int .i64 0, .string (⟨#[]⟩ : ByteArray)]) (by kernel_rfl) (by kernel_rfl) (ti := Tryz.t53) (by kernel_rfl) hs3 0 rfl (by kernel_rfl) (by kernel_rfl) (Nat.le_of_ble_eq_true (by kernel_rfl)) (cs' := #[.int .i64 1, .int .u64 1, .int .u8 2, .string (⟨#[97]⟩ : ByteArray), .string (⟨#[49]⟩ : ByteArray), .string (⟨#[]⟩ : ByteArray), .string (⟨#[]⟩ : ByteArray), .int .u64 0, .int .u64 1, .int .u64 2, .bool true, .int .i64 0, .string (⟨#[]⟩ : ByteArray)]) (L' := (Cel b1 #[.int .i64 1, .int .u64 1, .int .u8 2, .string (⟨#[97]⟩ : ByteArray), .string (⟨#[49]⟩ : ByteArray), .string (⟨#[]⟩ : ByteArray), .string (⟨#[]⟩ : ByteArray), .int .u64 0, .int .u64 1, .int .u64 2, .bool true, .int .i64 0, .string (⟨#[]⟩ : ByteArray)] 53) :: L) (by kernel_rfl) rfl ?_
  intro w4 hs5
  refine ⟨Xo, ?_⟩
  refine GoR.done (GoQ.thn (GoC.seq ?_))
  have hs6 : St w0 ((Cel b1 (CallV.cells wPut) 53) :: L) w4 := hs5
  refine Xt (.rd 0 (.rd 1 (.rd 2 (.ef 3 (.ef 4 .done))))) ?_
  refine Xk [(0, .gen []), (1, .gen []), (2, .gen [])] [] [(16, .agg #[.int .i64 2, .int .u64 1, .int .u8 1, .string (⟨#[97]⟩ : ByteArray), .string (⟨#[]⟩ : ByteArray), .string (⟨#[]⟩ : ByteArray), .string (⟨#[]⟩ : ByteArray), .int .u64 0, .int .u64 3, .int .u64 4, .bool true, .int .i64 0, .string (⟨#[49]⟩ : ByteArray)]), (1, vp b1 0), (0, .bool false)] ak0 ?_
  refine GoR.alloc rfl rfl (by kernel_rfl) (z := .agg (CallV.cells dCall)) (by kernel_rfl) hs6 (cs := CallV.cells dCall) (by kernel_rfl) ?_
  intro b7 w8 hs9
  refine ⟨Xo, ?_⟩
  refine GoR.store rfl rfl (by kernel_rfl) (b := b7) (off := 0) (v := .agg #[.int .i64 2, .int .u64 1, .int .u8 1, .string (⟨#[97]⟩ : ByteArray), .string (⟨#[]⟩ : ByteArray), .string (⟨#[]⟩ : ByteArray), .string (⟨#[]⟩ : ByteArray), .int .u64 0, .int .u64 3, .int .u64 4, .bool true, .int .i64 0, .string (⟨#[49]⟩ : ByteArray)]) (by kernel_rfl) (by kernel_rfl) (ti := Tryz.t53) (by kernel_rfl) hs9 0 rfl (by kernel_rfl) (by kernel_rfl) (Nat.le_of_ble_eq_true (by kernel_rfl)) (cs' := #[.int .i64 2, .int .u64 1, .int .u8 1, .string (⟨#[97]⟩ : ByteArray), .string (⟨#[]⟩ : ByteArray), .string (⟨#[]⟩ : ByteArray), .string (⟨#[]⟩ : ByteArray), .int .u64 0, .int .u64 3, .int .u64 4, .bool true, .int .i64 0, .string (⟨#[49]⟩ : ByteArray)]) (L' := (Cel b7 #[.int .i64 2, .int .u64 1, .int .u8 1, .string (⟨#[97]⟩ : ByteArray), .string (⟨#[]⟩ : ByteArray), .string (⟨#[]⟩ : ByteArray), .string (⟨#[]⟩ : ByteArray), .int .u64 0, .int .u64 3, .int .u64 4, .bool true, .int .i64 0, .string (⟨#[49]⟩ : ByteArray)] 53) :: (Cel b1 (CallV.cells wPut) 53) :: L) (by kernel_rfl) rfl ?_
  intro w10 hs11
  refine ⟨Xo, ?_⟩
  refine GoR.done (GoQ.thn (GoC.seq ?_))
  have hs12 : St w0 ((Cel b7 (CallV.cells wGet) 53) :: (Cel b1 (CallV.cells wPut) 53) :: L) w10 := hs11
  refine Xt (.rd 0 (.rd 1 (.ef 2 (.rd 3 .done)))) ?_
  refine Xk [(0, .agg (CallV.cells wPut)), (1, .agg (CallV.cells wGet))] [(0, [.prop (Array.size (CallV.cells wPut) = 13), .cells ⟨b1, 0, none⟩ (CallV.cells wPut)]), (1, [.prop (Array.size (CallV.cells wGet) = 13), .cells ⟨b7, 0, none⟩ (CallV.cells wGet)])] [(18, .agg (CallV.cells wGet)), (17, .agg (CallV.cells wPut)), (2, vp b7 0), (1, vp b1 0), (0, .bool false)] (ak (okp (by kernel_rfl) (oka (hs12.cells 1 0 rfl (by kernel_rfl)) ok0)) (ak (okp (by kernel_rfl) (oka (hs12.cells 0 0 rfl (by kernel_rfl)) ok0)) ak0)) ?_
  refine GoR.sliceLit rfl (by kernel_rfl) (t := 22) (e := 53) (n := 2) (ps := [(0, .agg (CallV.cells wPut)), (1, .agg (CallV.cells wGet))]) (by kernel_rfl) (by kernel_rfl) (ti := Tryz.t53) (z := .agg (CallV.cells dCall)) (by kernel_rfl) (by kernel_rfl) (by decide) (by decide) (cs := CallV.cells wPut ++ CallV.cells wGet) (by kernel_rfl) hs12 ?_
  intro b13 w14 hs15 hz16
  have hs17 : St w0 ((Sl (some ⟨b13, 0, none⟩) 2 53 13 CallV.cells ([(wPut : CallV), (wGet : CallV)])) :: (Cel b7 (CallV.cells wGet) 53) :: (Cel b1 (CallV.cells wPut) 53) :: L) w14 := St.slOf (l := [(wPut : CallV), (wGet : CallV)]) (f := CallV.cells) hs15 hz16 (callF).size (by simp only [List.length_cons, List.length_nil, maxLen]; omega) (by kernel_rfl)
  refine ⟨Xo, ?_⟩
  refine Xk [(3, .gen [])] [] [(3, vl b13 0 2 2), (2, vp b7 0), (1, vp b1 0), (0, .bool false)] ak0 ?_
  refine GoR.done (GoQ.thn (GoC.seq ?_))
  refine Xt (.rd 0 (.rd 1 (.rd 2 (.ef 3 (.ef 4 .done))))) ?_
  refine Xk [(0, .gen []), (1, .agg (OpV.cells wPut.op)), (2, .gen [])] [(1, [.prop (Array.size (OpV.cells wPut.op) = 6), .cells ⟨b1, 2, none⟩ (OpV.cells wPut.op)])] [(22, .agg #[.int .i64 1, .int .u64 1, .int .u8 wPut.op.kind, .string wPut.op.key, .string wPut.op.value, .string wPut.op.old, .string wPut.op.dest, .int .u64 wPut.op.amount, .int .u8 0, .int .u8 0, .int .u8 0, .int .u8 0, .int .u8 0, .int .u8 0, .int .u8 0, .int .u8 0, .int .u8 0, .int .u8 0, .int .u8 0, .int .u8 0, .int .u8 0, .int .u8 0, .int .u8 0, .int .u8 0, .int .u8 0, .int .u8 0, .int .u8 0, .int .u8 0, .int .u8 0, .int .u8 0, .int .u8 0, .int .u8 0, .int .u8 0, .int .u8 0, .int .u8 0, .int .u8 0, .int .u8 0, .int .u8 0, .int .u8 0, .int .u8 0]), (3, vl b13 0 2 2), (2, vp b7 0), (0, .bool false)] (ak (okp (by kernel_rfl) (oka (hs17.cells 2 2 rfl (by kernel_rfl)) ok0)) ak0) ?_
  refine GoR.alloc rfl rfl (by kernel_rfl) (z := .agg (ReqV.cells dReq)) (by kernel_rfl) hs17 (cs := ReqV.cells dReq) (by kernel_rfl) ?_
  intro b18 w19 hs20
  refine ⟨Xo, ?_⟩
  refine GoR.store rfl rfl (by kernel_rfl) (b := b18) (off := 0) (v := .agg #[.int .i64 1, .int .u64 1, .int .u8 wPut.op.kind, .string wPut.op.key, .string wPut.op.value, .string wPut.op.old, .string wPut.op.dest, .int .u64 wPut.op.amount, .int .u8 0, .int .u8 0, .int .u8 0, .int .u8 0, .int .u8 0, .int .u8 0, .int .u8 0, .int .u8 0, .int .u8 0, .int .u8 0, .int .u8 0, .int .u8 0, .int .u8 0, .int .u8 0, .int .u8 0, .int .u8 0, .int .u8 0, .int .u8 0, .int .u8 0, .int .u8 0, .int .u8 0, .int .u8 0, .int .u8 0, .int .u8 0, .int .u8 0, .int .u8 0, .int .u8 0, .int .u8 0, .int .u8 0, .int .u8 0, .int .u8 0, .int .u8 0]) (by kernel_rfl) (by kernel_rfl) (ti := Tryz.t56) (by kernel_rfl) hs20 0 rfl (by kernel_rfl) (by kernel_rfl) (Nat.le_of_ble_eq_true (by kernel_rfl)) (cs' := #[.int .i64 1, .int .u64 1, .int .u8 wPut.op.kind, .string wPut.op.key, .string wPut.op.value, .string wPut.op.old, .string wPut.op.dest, .int .u64 wPut.op.amount, .int .u8 0, .int .u8 0, .int .u8 0, .int .u8 0, .int .u8 0, .int .u8 0, .int .u8 0, .int .u8 0, .int .u8 0, .int .u8 0, .int .u8 0, .int .u8 0, .int .u8 0, .int .u8 0, .int .u8 0, .int .u8 0, .int .u8 0, .int .u8 0, .int .u8 0, .int .u8 0, .int .u8 0, .int .u8 0, .int .u8 0, .int .u8 0, .int .u8 0, .int .u8 0, .int .u8 0, .int .u8 0, .int .u8 0, .int .u8 0, .int .u8 0, .int .u8 0]) (L' := (Cel b18 #[.int .i64 1, .int .u64 1, .int .u8 wPut.op.kind, .string wPut.op.key, .string wPut.op.value, .string wPut.op.old, .string wPut.op.dest, .int .u64 wPut.op.amount, .int .u8 0, .int .u8 0, .int .u8 0, .int .u8 0, .int .u8 0, .int .u8 0, .int .u8 0, .int .u8 0, .int .u8 0, .int .u8 0, .int .u8 0, .int .u8 0, .int .u8 0, .int .u8 0, .int .u8 0, .int .u8 0, .int .u8 0, .int .u8 0, .int .u8 0, .int .u8 0, .int .u8 0, .int .u8 0, .int .u8 0, .int .u8 0, .int .u8 0, .int .u8 0, .int .u8 0, .int .u8 0, .int .u8 0, .int .u8 0, .int .u8 0, .int .u8 0] 56) :: (Sl (some ⟨b13, 0, none⟩) 2 53 13 CallV.cells ([(wPut : CallV), (wGet : CallV)])) :: (Cel b7 (CallV.cells wGet) 53) :: (Cel b1 (CallV.cells wPut) 53) :: L) (by kernel_rfl) rfl ?_
  intro w21 hs22
  refine ⟨Xo, ?_⟩
  refine GoR.done (GoQ.thn (GoC.seq ?_))
  have hs23 : St w0 ((Cel b18 (ReqV.cells wA) 56) :: (Sl (some ⟨b13, 0, none⟩) 2 53 13 CallV.cells ([(wPut : CallV), (wGet : CallV)])) :: (Cel b7 (CallV.cells wGet) 53) :: (Cel b1 (CallV.cells wPut) 53) :: L) w21 := hs22
  refine Xt (.rd 0 (.rd 1 (.rd 2 (.ef 3 (.ef 4 .done))))) ?_
  refine Xk [(0, .gen []), (1, .agg (OpV.cells wGet.op)), (2, .gen [])] [(1, [.prop (Array.size (OpV.cells wGet.op) = 6), .cells ⟨b7, 2, none⟩ (OpV.cells wGet.op)])] [(25, .agg #[.int .i64 2, .int .u64 1, .int .u8 wGet.op.kind, .string wGet.op.key, .string wGet.op.value, .string wGet.op.old, .string wGet.op.dest, .int .u64 wGet.op.amount, .int .u8 0, .int .u8 0, .int .u8 0, .int .u8 0, .int .u8 0, .int .u8 0, .int .u8 0, .int .u8 0, .int .u8 0, .int .u8 0, .int .u8 0, .int .u8 0, .int .u8 0, .int .u8 0, .int .u8 0, .int .u8 0, .int .u8 0, .int .u8 0, .int .u8 0, .int .u8 0, .int .u8 0, .int .u8 0, .int .u8 0, .int .u8 0, .int .u8 0, .int .u8 0, .int .u8 0, .int .u8 0, .int .u8 0, .int .u8 0, .int .u8 0, .int .u8 0]), (4, vp b18 0), (3, vl b13 0 2 2), (0, .bool false)] (ak (okp (by kernel_rfl) (oka (hs23.cells 2 2 rfl (by kernel_rfl)) ok0)) ak0) ?_
  refine GoR.alloc rfl rfl (by kernel_rfl) (z := .agg (ReqV.cells dReq)) (by kernel_rfl) hs23 (cs := ReqV.cells dReq) (by kernel_rfl) ?_
  intro b24 w25 hs26
  refine ⟨Xo, ?_⟩
  refine GoR.store rfl rfl (by kernel_rfl) (b := b24) (off := 0) (v := .agg #[.int .i64 2, .int .u64 1, .int .u8 wGet.op.kind, .string wGet.op.key, .string wGet.op.value, .string wGet.op.old, .string wGet.op.dest, .int .u64 wGet.op.amount, .int .u8 0, .int .u8 0, .int .u8 0, .int .u8 0, .int .u8 0, .int .u8 0, .int .u8 0, .int .u8 0, .int .u8 0, .int .u8 0, .int .u8 0, .int .u8 0, .int .u8 0, .int .u8 0, .int .u8 0, .int .u8 0, .int .u8 0, .int .u8 0, .int .u8 0, .int .u8 0, .int .u8 0, .int .u8 0, .int .u8 0, .int .u8 0, .int .u8 0, .int .u8 0, .int .u8 0, .int .u8 0, .int .u8 0, .int .u8 0, .int .u8 0, .int .u8 0]) (by kernel_rfl) (by kernel_rfl) (ti := Tryz.t56) (by kernel_rfl) hs26 0 rfl (by kernel_rfl) (by kernel_rfl) (Nat.le_of_ble_eq_true (by kernel_rfl)) (cs' := #[.int .i64 2, .int .u64 1, .int .u8 wGet.op.kind, .string wGet.op.key, .string wGet.op.value, .string wGet.op.old, .string wGet.op.dest, .int .u64 wGet.op.amount, .int .u8 0, .int .u8 0, .int .u8 0, .int .u8 0, .int .u8 0, .int .u8 0, .int .u8 0, .int .u8 0, .int .u8 0, .int .u8 0, .int .u8 0, .int .u8 0, .int .u8 0, .int .u8 0, .int .u8 0, .int .u8 0, .int .u8 0, .int .u8 0, .int .u8 0, .int .u8 0, .int .u8 0, .int .u8 0, .int .u8 0, .int .u8 0, .int .u8 0, .int .u8 0, .int .u8 0, .int .u8 0, .int .u8 0, .int .u8 0, .int .u8 0, .int .u8 0]) (L' := (Cel b24 #[.int .i64 2, .int .u64 1, .int .u8 wGet.op.kind, .string wGet.op.key, .string wGet.op.value, .string wGet.op.old, .string wGet.op.dest, .int .u64 wGet.op.amount, .int .u8 0, .int .u8 0, .int .u8 0, .int .u8 0, .int .u8 0, .int .u8 0, .int .u8 0, .int .u8 0, .int .u8 0, .int .u8 0, .int .u8 0, .int .u8 0, .int .u8 0, .int .u8 0, .int .u8 0, .int .u8 0, .int .u8 0, .int .u8 0, .int .u8 0, .int .u8 0, .int .u8 0, .int .u8 0, .int .u8 0, .int .u8 0, .int .u8 0, .int .u8 0, .int .u8 0, .int .u8 0, .int .u8 0, .int .u8 0, .int .u8 0, .int .u8 0] 56) :: (Cel b18 (ReqV.cells wA) 56) :: (Sl (some ⟨b13, 0, none⟩) 2 53 13 CallV.cells ([(wPut : CallV), (wGet : CallV)])) :: (Cel b7 (CallV.cells wGet) 53) :: (Cel b1 (CallV.cells wPut) 53) :: L) (by kernel_rfl) rfl ?_
  intro w27 hs28
  refine ⟨Xo, ?_⟩
  refine GoR.done (GoQ.thn (GoC.seq ?_))
  have hs29 : St w0 ((Cel b24 (ReqV.cells wB) 56) :: (Cel b18 (ReqV.cells wA) 56) :: (Sl (some ⟨b13, 0, none⟩) 2 53 13 CallV.cells ([(wPut : CallV), (wGet : CallV)])) :: (Cel b7 (CallV.cells wGet) 53) :: (Cel b1 (CallV.cells wPut) 53) :: L) w27 := hs28
  refine Xt (.rd 0 (.rd 1 (.rd 2 (.ef 3 (.ef 4 (.rd 5 (.rd 6 (.rd 7 (.rd 8 (.rd 9 .done)))))))))) ?_
  refine Xk [(0, .gen []), (1, .agg (ReqV.cells wA)), (2, .agg (ReqV.cells wB))] [(1, [.prop (Array.size (ReqV.cells wA) = 40), .cells ⟨b18, 0, none⟩ (ReqV.cells wA)]), (2, [.prop (Array.size (ReqV.cells wB) = 40), .cells ⟨b24, 0, none⟩ (ReqV.cells wB)])] [(29, .agg (ReqV.cells wB)), (28, .agg (ReqV.cells wA)), (27, vl b13 0 2 2), (5, vp b24 0), (4, vp b18 0), (3, vl b13 0 2 2), (0, .bool false)] (ak (okp (by kernel_rfl) (oka (hs29.cells 1 0 rfl (by kernel_rfl)) ok0)) (ak (okp (by kernel_rfl) (oka (hs29.cells 0 0 rfl (by kernel_rfl)) ok0)) ak0)) ?_
  refine GoR.sliceLit rfl (by kernel_rfl) (t := 23) (e := 56) (n := 2) (ps := [(0, .agg (ReqV.cells wA)), (1, .agg (ReqV.cells wB))]) (by kernel_rfl) (by kernel_rfl) (ti := Tryz.t56) (z := .agg (ReqV.cells dReq)) (by kernel_rfl) (by kernel_rfl) (by decide) (by decide) (cs := ReqV.cells wA ++ ReqV.cells wB) (by kernel_rfl) hs29 ?_
  intro b30 w31 hs32 hz33
  have hs34 : St w0 ((Sl (some ⟨b30, 0, none⟩) 2 56 40 ReqV.cells ([(wA : ReqV), (wB : ReqV)])) :: (Cel b24 (ReqV.cells wB) 56) :: (Cel b18 (ReqV.cells wA) 56) :: (Sl (some ⟨b13, 0, none⟩) 2 53 13 CallV.cells ([(wPut : CallV), (wGet : CallV)])) :: (Cel b7 (CallV.cells wGet) 53) :: (Cel b1 (CallV.cells wPut) 53) :: L) w31 := St.slOf (l := [(wA : ReqV), (wB : ReqV)]) (f := ReqV.cells) hs32 hz33 (reqF).size (by simp only [List.length_cons, List.length_nil, maxLen]; omega) (by kernel_rfl)
  refine ⟨Xo, ?_⟩
  refine Xa (f := 9) (args := #[vl b13 0 (([(wPut : CallV), (wGet : CallV)]).length) 2, vl b30 0 (([(wA : ReqV), (wB : ReqV)]).length) 2]) Tryz.call9 (check_spec ([(wPut : CallV), (wGet : CallV)]) ([(wA : ReqV), (wB : ReqV)]) (by decide) (by decide) (by intro q hq; simp only [List.mem_cons, List.not_mem_nil, or_false] at hq; rcases hq with rfl | rfl <;> decide) (fun w h => hL w (h.drop 6)) (fun w h => h.rows 3 rfl (callF).size _) (fun w h => h.rows 0 rfl (reqF).size _) hs34) ?_
  rintro v36 w37 ⟨rfl, hs35⟩
  refine ⟨Xo, ?_⟩
  refine Xk [(5, .gen []), (6, .gen []), (7, .gen []), (8, .gen []), (9, .gen [])] [] [(6, .int .u8 ((chkV ([(wPut : CallV), (wGet : CallV)]) ([(wA : ReqV), (wB : ReqV)])).1)), (5, vp b24 0), (4, vp b18 0), (3, vl b13 0 2 2), (0, .bool false)] ak0 ?_
  refine GoR.done (GoQ.thn (GoC.seq ?_))
  refine GoC.slots (S' := [(6, .int .u8 0), (5, vp b24 0), (4, vp b18 0), (3, vl b13 0 2 2), (0, .bool false)]) (by rw [works_a]) ?_
  refine Xt (.rd 0 (.rd 1 (.rd 2 (.ef 3 (.ef 4 (.rd 5 (.rd 6 (.rd 7 (.rd 8 (.rd 9 .done)))))))))) ?_
  refine Xk [(0, .gen []), (1, .agg (ReqV.cells wB)), (2, .agg (ReqV.cells wA))] [(1, [.prop (Array.size (ReqV.cells wB) = 40), .cells ⟨b24, 0, none⟩ (ReqV.cells wB)]), (2, [.prop (Array.size (ReqV.cells wA) = 40), .cells ⟨b18, 0, none⟩ (ReqV.cells wA)])] [(37, .agg (ReqV.cells wA)), (36, .agg (ReqV.cells wB)), (35, vl b13 0 2 2), (6, .int .u8 0), (3, vl b13 0 2 2), (0, .bool false)] (ak (okp (by kernel_rfl) (oka (hs35.cells 1 0 rfl (by kernel_rfl)) ok0)) (ak (okp (by kernel_rfl) (oka (hs35.cells 2 0 rfl (by kernel_rfl)) ok0)) ak0)) ?_
  refine GoR.sliceLit rfl (by kernel_rfl) (t := 23) (e := 56) (n := 2) (ps := [(0, .agg (ReqV.cells wB)), (1, .agg (ReqV.cells wA))]) (by kernel_rfl) (by kernel_rfl) (ti := Tryz.t56) (z := .agg (ReqV.cells dReq)) (by kernel_rfl) (by kernel_rfl) (by decide) (by decide) (cs := ReqV.cells wB ++ ReqV.cells wA) (by kernel_rfl) hs35 ?_
  intro b38 w39 hs40 hz41
  have hs42 : St w0 ((Sl (some ⟨b38, 0, none⟩) 2 56 40 ReqV.cells ([(wB : ReqV), (wA : ReqV)])) :: (Sl (some ⟨b30, 0, none⟩) 2 56 40 ReqV.cells ([(wA : ReqV), (wB : ReqV)])) :: (Cel b24 (ReqV.cells wB) 56) :: (Cel b18 (ReqV.cells wA) 56) :: (Sl (some ⟨b13, 0, none⟩) 2 53 13 CallV.cells ([(wPut : CallV), (wGet : CallV)])) :: (Cel b7 (CallV.cells wGet) 53) :: (Cel b1 (CallV.cells wPut) 53) :: L) w39 := St.slOf (l := [(wB : ReqV), (wA : ReqV)]) (f := ReqV.cells) hs40 hz41 (reqF).size (by simp only [List.length_cons, List.length_nil, maxLen]; omega) (by kernel_rfl)
  refine ⟨Xo, ?_⟩
  refine Xa (f := 9) (args := #[vl b13 0 (([(wPut : CallV), (wGet : CallV)]).length) 2, vl b38 0 (([(wB : ReqV), (wA : ReqV)]).length) 2]) Tryz.call9 (check_spec ([(wPut : CallV), (wGet : CallV)]) ([(wB : ReqV), (wA : ReqV)]) (by decide) (by decide) (by intro q hq; simp only [List.mem_cons, List.not_mem_nil, or_false] at hq; rcases hq with rfl | rfl <;> decide) (fun w h => hL w (h.drop 7)) (fun w h => h.rows 4 rfl (callF).size _) (fun w h => h.rows 0 rfl (reqF).size _) hs42) ?_
  rintro v44 w45 ⟨rfl, hs43⟩
  refine ⟨Xo, ?_⟩
  refine Xk [(5, .gen []), (6, .gen []), (7, .gen []), (8, .gen []), (9, .gen [])] [] [(9, .int .i64 ((chkV ([(wPut : CallV), (wGet : CallV)]) ([(wB : ReqV), (wA : ReqV)])).2)), (8, .int .u8 ((chkV ([(wPut : CallV), (wGet : CallV)]) ([(wB : ReqV), (wA : ReqV)])).1)), (6, .int .u8 0), (3, vl b13 0 2 2), (0, .bool false)] ak0 ?_
  refine GoR.done (GoQ.thn (GoC.seq ?_))
  refine GoC.slots (S' := [(9, .int .i64 1), (8, .int .u8 6), (6, .int .u8 0), (3, vl b13 0 2 2), (0, .bool false)]) (by rw [works_b]) ?_
  refine Xt (.rd 0 (.ef 1 (.rd 2 (.rd 3 (.rd 4 (.rd 5 (.rd 6 .done))))))) ?_
  refine Xk [(0, .gen [])] [] [(43, vl b13 0 2 2), (9, .int .i64 1), (8, .int .u8 6), (6, .int .u8 0), (0, .bool false)] ak0 ?_
  refine Xa (f := 12) (args := #[vl b13 0 (([(wPut : CallV), (wGet : CallV)]).length) 2]) Tryz.call12 (find_spec_ ([(wPut : CallV), (wGet : CallV)]) (by decide) (by intro q hq; simp only [List.mem_cons, List.not_mem_nil, or_false] at hq; rcases hq with rfl | rfl <;> decide) (fun w h => hL w (h.drop 7)) (fun w h => h.rows 4 rfl (callF).size _) hs43) ?_
  rintro v52 w53 (⟨oa46, oc47, rfl, h48, hs49⟩ | ⟨rfl, h50, hs51⟩)
  · refine ⟨Xo, ?_⟩
    refine Xk [(2, .gen []), (3, .gen []), (4, .gen []), (5, .gen []), (6, .gen [])] [] [(11, .bool true), (10, .slice oa46 (((findF ([(wPut : CallV), (wGet : CallV)])).getD []).length) oc47), (9, .int .i64 1), (8, .int .u8 6), (6, .int .u8 0), (0, .bool false)] ak0 ?_
    refine GoR.done (GoQ.thn (GoC.seq ?_))
    have hs54 : St w0 ((Sl oa46 oc47 3 1 natC ([0, 1] : List Nat)) :: (Sl (some ⟨b38, 0, none⟩) 2 56 40 ReqV.cells ([(wB : ReqV), (wA : ReqV)])) :: (Sl (some ⟨b30, 0, none⟩) 2 56 40 ReqV.cells ([(wA : ReqV), (wB : ReqV)])) :: (Cel b24 (ReqV.cells wB) 56) :: (Cel b18 (ReqV.cells wA) 56) :: (Sl (some ⟨b13, 0, none⟩) 2 53 13 CallV.cells ([(wPut : CallV), (wGet : CallV)])) :: (Cel b7 (CallV.cells wGet) 53) :: (Cel b1 (CallV.cells wPut) 53) :: L) w53 := by rw [← works_d]; exact hs49
    refine GoC.slots (S' := [(11, .bool true), (10, .slice oa46 (([0, 1] : List Nat).length) oc47), (9, .int .i64 1), (8, .int .u8 6), (6, .int .u8 0), (0, .bool false)]) (by rw [works_d]) ?_
    have hl2 : ([0, 1] : List Nat).length = 2 := rfl
    obtain ⟨ab55, rfl⟩ := Sl.isSome (hs54.at_ 0 rfl) (by omega)
    refine GoC.join (T := Unit) (E := fun _ => [(0, .bool (((((([0, 1] : List Nat).length : Nat) : Int) == 2) && ((((([0, 1] : List Nat).getD 0 (0 : Nat)) : Nat) : Int) == 0)) && ((((([0, 1] : List Nat).getD 1 (0 : Nat)) : Nat) : Int) == 1)))]) (F := fun _ w => St w0 ((Sl (some ⟨ab55, 0, none⟩) oc47 3 1 natC ([0, 1] : List Nat)) :: (Sl (some ⟨b38, 0, none⟩) 2 56 40 ReqV.cells ([(wB : ReqV), (wA : ReqV)])) :: (Sl (some ⟨b30, 0, none⟩) 2 56 40 ReqV.cells ([(wA : ReqV), (wB : ReqV)])) :: (Cel b24 (ReqV.cells wB) 56) :: (Cel b18 (ReqV.cells wA) 56) :: (Sl (some ⟨b13, 0, none⟩) 2 53 13 CallV.cells ([(wPut : CallV), (wGet : CallV)])) :: (Cel b7 (CallV.cells wGet) 53) :: (Cel b1 (CallV.cells wPut) 53) :: L) w) ?_ ?_
    · refine Xt (.rd 0 (.rd 1 (.rd 2 (.rd 3 (.rd 4 (.rd 5 (.rd 6 (.rd 7 (.rd 8 (.rd 9 (.rd 10 (.rd 11 (.rd 12 (.rd 13 (.rd 14 (.rd 15 (.rd 16 (.rd 17 (.rd 18 (.rd 19 (.rd 20 (.rd 21 (.rd 22 (.rd 23 (.rd 24 (.rd 25 (.rd 26 (.rd 27 (.rd 28 (.rd 29 (.rd 30 .done))))))))))))))))))))))))))))))) ?_
      refine Xk [(0, .gen []), (1, .gen []), (2, .gen []), (3, .gen []), (4, .gen []), (5, .gen []), (6, .gen []), (7, .gen []), (8, .gen []), (9, .gen []), (10, .gen []), (11, .gen []), (12, .gen []), (13, .gen []), (14, .gen []), (15, .gen []), (16, .gen []), (17, .gen []), (18, .gen [])] [] [(65, .bool (((([0, 1] : List Nat).length : Nat) : Int) == 2)), (10, vl ab55 0 (([0, 1] : List Nat).length) oc47), (0, .bool false)] ak0 ?_
      rcases Bool.eq_false_or_eq_true (((([0, 1] : List Nat).length : Nat) : Int) == 2) with h57 | h57
      · refine Xs 65 true h57 ?_
        have h57' : ((([0, 1] : List Nat).length : Nat) : Int) = 2 := ieqT h57
        refine Xk [(19, .gen []), (20, .as_ (vp ab55 0) .at_), (21, .gen [.int .i64 ((([0, 1] : List Nat).getD 0 (0 : Nat)) : Nat)]), (22, .gen []), (23, .gen []), (24, .gen [])] [(20, [.prop (0 ≤ (0 : Int) ∧ (0 : Int) < ((([0, 1] : List Nat).length : Nat) : Int)), .prop (Value.pointer (some (Addr.add ⟨ab55, 0, none⟩ (Int.toNat 0 * 1))) = Value.pointer (some ⟨ab55, 0, none⟩))]), (21, [.cell ⟨ab55, 0, none⟩ (.int .i64 ((([0, 1] : List Nat).getD 0 (0 : Nat)) : Nat))])] [(71, .bool ((((([0, 1] : List Nat).getD 0 (0 : Nat)) : Nat) : Int) == 0)), (10, vl ab55 0 (([0, 1] : List Nat).length) oc47), (0, .bool false)] (ak (okp (by omega) (okp (ptrAdd _ _ _) ok0)) (ak (okc (RowsAt.at0 (hs54.rows 0 rfl (natF).size (0 : Nat)) (k := 0) (by first | omega | (simp only [List.length_set]; omega) | (simp only [List.length_set, List.length_append, List.length_cons, List.length_nil]; omega)) (j := 0) (by decide) (by kernel_rfl)) ok0) ak0)) ?_
        rcases Bool.eq_false_or_eq_true ((((([0, 1] : List Nat).getD 0 (0 : Nat)) : Nat) : Int) == 0) with h58 | h58
        · refine Xs 71 true h58 ?_
          have h58' : (((([0, 1] : List Nat).getD 0 (0 : Nat)) : Nat) : Int) = 0 := ieqT h58
          refine Xk [(25, .gen []), (26, .as_ (vp ab55 1) .at_), (27, .gen [.int .i64 ((([0, 1] : List Nat).getD 1 (0 : Nat)) : Nat)]), (28, .gen []), (29, .gen []), (30, .gen [])] [(26, [.prop (0 ≤ (1 : Int) ∧ (1 : Int) < ((([0, 1] : List Nat).length : Nat) : Int)), .prop (Value.pointer (some (Addr.add ⟨ab55, 0, none⟩ (Int.toNat 1 * 1))) = Value.pointer (some ⟨ab55, 1, none⟩))]), (27, [.cell ⟨ab55, 1, none⟩ (.int .i64 ((([0, 1] : List Nat).getD 1 (0 : Nat)) : Nat))])] [(0, .bool ((((([0, 1] : List Nat).getD 1 (0 : Nat)) : Nat) : Int) == 1))] (ak (okp (by omega) (okp (ptrAdd _ _ _) ok0)) (ak (okc (RowsAt.at0 (hs54.rows 0 rfl (natF).size (0 : Nat)) (k := 1) (by first | omega | (simp only [List.length_set]; omega) | (simp only [List.length_set, List.length_append, List.length_cons, List.length_nil]; omega)) (j := 0) (by decide) (by kernel_rfl)) ok0) ak0)) ?_
          refine GoR.done ?_
          refine GoQ.pick [0] (S' := [(0, .bool ((((([0, 1] : List Nat).getD 1 (0 : Nat)) : Nat) : Int) == 1))]) (by kernel_rfl) ?_
          exact GoQ.meet1 () (by first | rfl | (simp only [h57, h58, Bool.not_true, Bool.not_false, Bool.true_or, Bool.false_or, Bool.true_and, Bool.false_and, Bool.or_true, Bool.or_false, Bool.and_true, Bool.and_false]; done) | (simp [h57, h58]; done)) hs54
        · refine Xs 71 false h58 ?_
          have h58' : ¬ ((((([0, 1] : List Nat).getD 0 (0 : Nat)) : Nat) : Int) = 0) := ieqF h58
          exact absurd (h58.symm.trans (show ((((([0, 1] : List Nat).getD 0 (0 : Nat)) : Nat) : Int) == 0) = true by decide)) (by decide)
      · refine Xs 65 false h57 ?_
        have h57' : ¬ (((([0, 1] : List Nat).length : Nat) : Int) = 2) := ieqF h57
        exact absurd (h57.symm.trans (show (((([0, 1] : List Nat).length : Nat) : Int) == 2) = true by decide)) (by decide)
    intro _ w59 hs60
    refine GoQ.thn (GoC.ret ?_)
    refine X1 (v := .bool (((((([0, 1] : List Nat).length : Nat) : Int) == 2) && ((((([0, 1] : List Nat).getD 0 (0 : Nat)) : Nat) : Int) == 0)) && ((((([0, 1] : List Nat).getD 1 (0 : Nat)) : Nat) : Int) == 1))) ?_
    have hs61 : St w0 (L) w59 := hs60.drop 8
    exact ⟨rfl, hs61⟩
  · exact absurd (h50.symm.trans (show ((findF ([(wPut : CallV), (wGet : CallV)])).isSome) = true by rw [works_c]; rfl)) (by decide)
end Go.Proofs.YtbmmknchcdhefaaGreatDoor
