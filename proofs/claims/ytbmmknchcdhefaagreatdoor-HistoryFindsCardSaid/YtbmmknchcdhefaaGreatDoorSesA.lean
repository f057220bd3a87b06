/-
  Package session: New, client, Last.
-/
import Derived.Test.YtbmmknchcdhefaaGreatDoorSxT
import Derived.Test.YtbmmknchcdhefaaGreatDoorProg
import Derived.Test.YtbmmknchcdhefaaGreatDoorLedG
namespace Go.Proofs.YtbmmknchcdhefaaGreatDoor
open Go.RowKit Go.Sx
set_option linter.unusedVariables false
set_option linter.unusedSimpArgs false
set_option linter.unnecessarySimpa false
set_option maxRecDepth 100000
structure LastV where
  time : Int
  reply : RepV
deriving DecidableEq
def LastV.cells (x : LastV) : Array Value := #[.int .u64 x.time, .int .i64 x.reply.err, .string x.reply.value]
structure ReqV where
  client : Int
  time : Int
  op : OpV
  tag : Vector Int 32
deriving DecidableEq
def ReqV.cells (x : ReqV) : Array Value := #[.int .i64 x.client, .int .u64 x.time, .int .u8 x.op.kind, .string x.op.key, .string x.op.value, .string x.op.old, .string x.op.dest, .int .u64 x.op.amount, .int .u8 x.tag[0], .int .u8 x.tag[1], .int .u8 x.tag[2], .int .u8 x.tag[3], .int .u8 x.tag[4], .int .u8 x.tag[5], .int .u8 x.tag[6], .int .u8 x.tag[7], .int .u8 x.tag[8], .int .u8 x.tag[9], .int .u8 x.tag[10], .int .u8 x.tag[11], .int .u8 x.tag[12], .int .u8 x.tag[13], .int .u8 x.tag[14], .int .u8 x.tag[15], .int .u8 x.tag[16], .int .u8 x.tag[17], .int .u8 x.tag[18], .int .u8 x.tag[19], .int .u8 x.tag[20], .int .u8 x.tag[21], .int .u8 x.tag[22], .int .u8 x.tag[23], .int .u8 x.tag[24], .int .u8 x.tag[25], .int .u8 x.tag[26], .int .u8 x.tag[27], .int .u8 x.tag[28], .int .u8 x.tag[29], .int .u8 x.tag[30], .int .u8 x.tag[31]]
abbrev dLast : LastV := ⟨0, ⟨0, ⟨#[]⟩⟩⟩
theorem lastF : CellF LastV.cells 3 := ⟨fun _ => rfl, fun _ => rfl⟩
def isClient (i : Int) : Bool :=
  ((decide ((i : Int) ≥ 1)) && (decide ((i : Int) ≤ 8)))
theorem isClient_spec {w0 w : World} {L : List Asn} (i : Int) (hs : St w0 L w) : Calls Tryz.prog 67 #[.int .i64 i] w (Ret fun rv w' => rv = .bool (isClient i) ∧ St w0 L w') := by
  refine enter (args := [.int .i64 i]) Tryz.func67 rfl Tryz.ntmps67 (Nat.le_of_ble_eq_true (by kernel_rfl)) ?_
  refine GoC.slots (S' := [(0, .int .i64 i)]) rfl ?_
  refine GoC.seq ?_
  refine Xt (.rd 0 .done) ?_
  refine Xk [(0, .gen [])] [] [(2, .bool false), (0, .int .i64 i)] ak0 ?_
  refine GoR.done (GoQ.thn (GoC.seq ?_))
  refine GoC.join (T := Unit) (E := fun _ => [(2, .bool ((decide ((i : Int) ≥ 1)) && (decide ((i : Int) ≤ 8))))]) (F := fun _ w => St w0 (L) w) ?_ ?_
  · refine Xt (.rd 0 (.rd 1 (.rd 2 (.rd 3 (.rd 4 (.rd 5 (.rd 6 .done))))))) ?_
    refine Xk [(0, .gen []), (1, .gen []), (2, .gen [])] [] [(5, .bool (decide ((i : Int) ≥ 1))), (2, .bool false), (0, .int .i64 i)] ak0 ?_
    rcases Bool.eq_false_or_eq_true (decide ((i : Int) ≥ 1)) with h1 | h1
    · refine Xs 5 true h1 ?_
      have h1' : (i : Int) ≥ 1 := of_decide_eq_true h1
      refine Xk [(3, .gen []), (4, .gen []), (5, .gen []), (6, .gen [])] [] [(2, .bool (decide ((i : Int) ≤ 8)))] ak0 ?_
      refine GoR.done ?_
      refine GoQ.pick [2] (S' := [(2, .bool (decide ((i : Int) ≤ 8)))]) (by kernel_rfl) ?_
      exact GoQ.meet1 () (by first | rfl | (simp only [h1, Bool.not_true, Bool.not_false, Bool.true_or, Bool.false_or, Bool.true_and, Bool.false_and, Bool.or_true, Bool.or_false, Bool.and_true, Bool.and_false]; done) | (simp [h1]; done)) hs
    · refine Xs 5 false h1 ?_
      have h1' : ¬ ((i : Int) ≥ 1) := of_decide_eq_false h1
      refine Xk [(3, .gen []), (4, .gen []), (5, .gen []), (6, .gen [])] [] [(2, .bool false)] ak0 ?_
      refine GoR.done ?_
      refine GoQ.pick [2] (S' := [(2, .bool false)]) (by kernel_rfl) ?_
      exact GoQ.meet1 () (by first | rfl | (simp only [h1, Bool.not_true, Bool.not_false, Bool.true_or, Bool.false_or, Bool.true_and, Bool.false_and, Bool.or_true, Bool.or_false, Bool.and_true, Bool.and_false]; done) | (simp [h1]; done)) hs
  intro _ w2 hs3
  refine GoQ.thn (GoC.ret ?_)
  refine X1 (v := .bool ((decide ((i : Int) ≥ 1)) && (decide ((i : Int) ≤ 8)))) ?_
  have hr : isClient i = ((decide ((i : Int) ≥ 1)) && (decide ((i : Int) ≤ 8))) := by rw [isClient]
  exact ⟨by first | (rw [hr]; done) | (rw [hr]; rfl), hs3.drop 0⟩
theorem isClient_iff {i : Int} : isClient i = true ↔ 1 ≤ i ∧ i ≤ 8 := by unfold isClient; simp
end Go.Proofs.YtbmmknchcdhefaaGreatDoor
