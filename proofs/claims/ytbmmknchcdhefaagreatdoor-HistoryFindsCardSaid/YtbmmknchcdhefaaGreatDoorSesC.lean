/-
  Package session: New, List.
-/
import Derived.Test.YtbmmknchcdhefaaGreatDoorSxT
import Derived.Test.YtbmmknchcdhefaaGreatDoorProg
import Derived.Test.YtbmmknchcdhefaaGreatDoorSesB
import Derived.Test.YtbmmknchcdhefaaGreatDoorShelf
namespace Go.Proofs.YtbmmknchcdhefaaGreatDoor
open Go.RowKit Go.Sx
set_option linter.unusedVariables false
set_option linter.unusedSimpArgs false
set_option linter.unnecessarySimpa false
set_option maxRecDepth 100000
theorem sesNew_spec {w0 w : World} {L : List Asn} (hs : St w0 L w) : Calls Tryz.prog 64 #[] w (Ret fun rv w' => ∃ p : Nat, rv = vp p 0 ∧ St w0 ((Cel p (arrCells LastV.cells (List.replicate 8 dLast)) 129) :: L) w') := by
  refine enter (args := []) Tryz.func64 rfl Tryz.ntmps64 (Nat.le_of_ble_eq_true (by kernel_rfl)) ?_
  refine GoC.slots (S' := []) rfl ?_
  refine GoC.seq ?_
  refine Xt (.rd 0 .done) ?_
  refine Xk [(0, .gen [])] [] [(0, .pointer none)] ak0 ?_
  refine GoR.done (GoQ.thn (GoC.seq ?_))
  refine Xt (.rd 0 (.ef 1 (.rd 2 .done))) ?_
  refine Xk [(0, .gen [])] [] [(1, .agg #[.int .u64 0, .int .i64 0, .string (⟨#[]⟩ : ByteArray), .int .u64 0, .int .i64 0, .string (⟨#[]⟩ : ByteArray), .int .u64 0, .int .i64 0, .string (⟨#[]⟩ : ByteArray), .int .u64 0, .int .i64 0, .string (⟨#[]⟩ : ByteArray), .int .u64 0, .int .i64 0, .string (⟨#[]⟩ : ByteArray), .int .u64 0, .int .i64 0, .string (⟨#[]⟩ : ByteArray), .int .u64 0, .int .i64 0, .string (⟨#[]⟩ : ByteArray), .int .u64 0, .int .i64 0, .string (⟨#[]⟩ : ByteArray)]), (0, .pointer none)] ak0 ?_
  refine GoR.box rfl rfl (by kernel_rfl) (v := .agg #[.int .u64 0, .int .i64 0, .string (⟨#[]⟩ : ByteArray), .int .u64 0, .int .i64 0, .string (⟨#[]⟩ : ByteArray), .int .u64 0, .int .i64 0, .string (⟨#[]⟩ : ByteArray), .int .u64 0, .int .i64 0, .string (⟨#[]⟩ : ByteArray), .int .u64 0, .int .i64 0, .string (⟨#[]⟩ : ByteArray), .int .u64 0, .int .i64 0, .string (⟨#[]⟩ : ByteArray), .int .u64 0, .int .i64 0, .string (⟨#[]⟩ : ByteArray), .int .u64 0, .int .i64 0, .string (⟨#[]⟩ : ByteArray)]) (by kernel_rfl) hs (cs := #[.int .u64 0, .int .i64 0, .string (⟨#[]⟩ : ByteArray), .int .u64 0, .int .i64 0, .string (⟨#[]⟩ : ByteArray), .int .u64 0, .int .i64 0, .string (⟨#[]⟩ : ByteArray), .int .u64 0, .int .i64 0, .string (⟨#[]⟩ : ByteArray), .int .u64 0, .int .i64 0, .string (⟨#[]⟩ : ByteArray), .int .u64 0, .int .i64 0, .string (⟨#[]⟩ : ByteArray), .int .u64 0, .int .i64 0, .string (⟨#[]⟩ : ByteArray), .int .u64 0, .int .i64 0, .string (⟨#[]⟩ : ByteArray)]) (by kernel_rfl) ?_
  intro b1 w2 hs3
  refine ⟨Xo, ?_⟩
  refine Xk [(2, .gen [])] [] [(0, vp b1 0)] ak0 ?_
  refine GoR.done (GoQ.thn (GoC.ret ?_))
  refine X1 (v := vp b1 0) ?_
  exact ⟨_, rfl, (show St w0 (Cel b1 (arrCells LastV.cells (List.replicate 8 dLast)) 129 :: L) _ from Eq.mp (by kernel_rfl) hs3)⟩
end Go.Proofs.YtbmmknchcdhefaaGreatDoor
