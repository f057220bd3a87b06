/-
  Package session: New, client, Last.
-/
import Derived.Test.YtggkhhogpallbaaGreatDoorProg
import Derived.Test.YtggkhhogpallbaaGreatDoorLedG
import Derived.Test.YtggkhhogpallbaaGreatDoorSxT
namespace Go.Proofs.YtggkhhogpallbaaGreatDoor
open Go.RowKit Go.Sx
set_option linter.unusedVariables false
set_option linter.unusedSimpArgs false
set_option linter.unnecessarySimpa false
set_option maxRecDepth 100000

structure LastV where
  time : Int
  reply : RepV
deriving DecidableEq
def LastV.cells (x : LastV) : Array Value := #[.int .u64 x.time, .int .i64 x.reply.err, .string x.reply.value]
structure ReqV where
  client : Int
  time : Int
  op : OpV
  tag : Vector Int 32
deriving DecidableEq
def ReqV.cells (x : ReqV) : Array Value := #[.int .i64 x.client, .int .u64 x.time, .int .u8 x.op.kind, .string x.op.key, .string x.op.value, .string x.op.old, .string x.op.dest, .int .u64 x.op.amount, .int .u8 x.tag[0], .int .u8 x.tag[1], .int .u8 x.tag[2], .int .u8 x.tag[3], .int .u8 x.tag[4], .int .u8 x.tag[5], .int .u8 x.tag[6], .int .u8 x.tag[7], .int .u8 x.tag[8], .int .u8 x.tag[9], .int .u8 x.tag[10], .int .u8 x.tag[11], .int .u8 x.tag[12], .int .u8 x.tag[13], .int .u8 x.tag[14], .int .u8 x.tag[15], .int .u8 x.tag[16], .int .u8 x.tag[17], .int .u8 x.tag[18], .int .u8 x.tag[19], .int .u8 x.tag[20], .int .u8 x.tag[21], .int .u8 x.tag[22], .int .u8 x.tag[23], .int .u8 x.tag[24], .int .u8 x.tag[25], .int .u8 x.tag[26], .int .u8 x.tag[27], .int .u8 x.tag[28], .int .u8 x.tag[29], .int .u8 x.tag[30], .int .u8 x.tag[31]]
abbrev dLast : LastV := ⟨0, ⟨0, ⟨#[]⟩⟩⟩
theorem lastF : CellF LastV.cells 3 := ⟨fun _ => rfl, fun _ => rfl⟩
def isClient (i : Int) : Bool :=
  ((decide ((i : Int) ≥ 1)) && (decide ((i : Int) ≤ 8)))
theorem isClient_spec {w0 w : World} {L : List Asn} (i : Int) (hs : St w0 L w) : Calls Tryz.prog 31 #[.int .i64 i] w (Ret fun rv w' => rv = .bool (isClient i) ∧ St w0 L w') := by
  refine enter (args := [.int .i64 i]) Tryz.func31 rfl Tryz.ntmps31 (Nat.le_of_ble_eq_true (by kernel_rfl)) ?_
  refine GoC.slots (S' := [(0, .int .i64 i)]) rfl ?_
  refine GoC.seq ?_
  refine GoC.regT [1] (.rd 0 .done) (by kernel_rfl) (by kernel_rfl) ?_
  refine GoR.phaseK [(0, .gen [])] [2, 0] [] [(2, .bool false), (0, .int .i64 i)] (by kernel_rfl) rfl ak0 ?_
  refine GoR.done (GoQ.thn (GoC.seq ?_))
  refine GoC.join (T := Unit) (E := fun _ => [(2, .bool ((decide ((i : Int) ≥ 1)) && (decide ((i : Int) ≤ 8))))]) (F := fun _ w => St w0 (L) w) ?_ ?_
  · refine GoC.regT [127, 127, 127, 127, 127, 127, 127] (.rd 0 (.rd 1 (.rd 2 (.rd 3 (.rd 4 (.rd 5 (.rd 6 .done))))))) (by kernel_rfl) (by kernel_rfl) ?_
    refine GoR.phaseK [(0, .gen []), (1, .gen []), (2, .gen [])] [5, 2, 0] [] [(5, .bool (decide ((i : Int) ≥ 1))), (2, .bool false), (0, .int .i64 i)] (by kernel_rfl) rfl ak0 ?_
    rcases Bool.eq_false_or_eq_true (decide ((i : Int) ≥ 1)) with h1 | h1
    · refine GoR.setB 5 true (by decide) (by kernel_rfl) h1 ?_
      have h1' : (i : Int) ≥ 1 := of_decide_eq_true h1
      refine GoR.phaseK [(3, .gen []), (4, .gen []), (5, .gen []), (6, .gen [])] [2] [] [(2, .bool (decide ((i : Int) ≤ 8)))] (by kernel_rfl) rfl ak0 ?_
      refine GoR.done ?_
      refine GoQ.pick [2] (S' := [(2, .bool (decide ((i : Int) ≤ 8)))]) (by kernel_rfl) ?_
      exact GoQ.meet1 () (by first | rfl | (simp only [h1, Bool.not_true, Bool.not_false, Bool.true_or, Bool.false_or, Bool.true_and, Bool.false_and, Bool.or_true, Bool.or_false, Bool.and_true, Bool.and_false]; done) | (simp [h1]; done)) hs
    · refine GoR.setB 5 false (by decide) (by kernel_rfl) h1 ?_
      have h1' : ¬ ((i : Int) ≥ 1) := of_decide_eq_false h1
      refine GoR.phaseK [(3, .gen []), (4, .gen []), (5, .gen []), (6, .gen [])] [2] [] [(2, .bool false)] (by kernel_rfl) rfl ak0 ?_
      refine GoR.done ?_
      refine GoQ.pick [2] (S' := [(2, .bool false)]) (by kernel_rfl) ?_
      exact GoQ.meet1 () (by first | rfl | (simp only [h1, Bool.not_true, Bool.not_false, Bool.true_or, Bool.false_or, Bool.true_and, Bool.false_and, Bool.or_true, Bool.or_false, Bool.and_true, Bool.and_false]; done) | (simp [h1]; done)) hs
  intro _ w2 hs3
  refine GoQ.thn (GoC.ret ?_)
  refine GoQ.done (.inl rfl) (v := .bool ((decide ((i : Int) ≥ 1)) && (decide ((i : Int) ≤ 8)))) (fun a hf => results1 rfl (by kernel_rfl) a hf) ?_
  have hr : isClient i = ((decide ((i : Int) ≥ 1)) && (decide ((i : Int) ≤ 8))) := by rw [isClient]
  exact ⟨by first | (rw [hr]; done) | (rw [hr]; rfl), hs3.drop 0⟩
theorem isClient_iff {i : Int} : isClient i = true ↔ 1 ≤ i ∧ i ≤ 8 := by unfold isClient; simp
def tlast (l : List LastV) (i : Int) : LastV :=
  if (isClient i) = true then
    (l.getD (Int.toNat (i - 1)) dLast)
  else
    (⟨0, ⟨0, (⟨#[]⟩ : ByteArray)⟩⟩ : LastV)
theorem tlast_spec {w0 w : World} {L : List Asn} {p : Nat} (l : List LastV) (i : Int) (hl : l.length = 8) (hs : St w0 ((Cel p (arrCells LastV.cells l) 78) :: L) w) : Calls Tryz.prog 30 #[.pointer (some ⟨p, 0, none⟩), .int .i64 i] w (Ret fun rv w' => rv = .agg (LastV.cells (tlast l i)) ∧ St w0 ((Cel p (arrCells LastV.cells l) 78) :: L) w') := by
  refine enter (args := [.pointer (some ⟨p, 0, none⟩), .int .i64 i]) Tryz.func30 rfl Tryz.ntmps30 (Nat.le_of_ble_eq_true (by kernel_rfl)) ?_
  refine GoC.slots (S' := [(0, .pointer (some ⟨p, 0, none⟩)), (1, .int .i64 i)]) rfl ?_
  refine GoC.seq ?_
  refine GoC.regT [1] (.ef 0 .done) (by kernel_rfl) (by kernel_rfl) ?_
  refine GoR.alloc rfl rfl (by kernel_rfl) (z := .agg #[.int .u64 0, .int .i64 0, .string (⟨#[]⟩ : ByteArray)]) (by kernel_rfl) hs (cs := #[.int .u64 0, .int .i64 0, .string (⟨#[]⟩ : ByteArray)]) (by kernel_rfl) ?_
  intro b1 w2 hs3
  refine ⟨(opn (by kernel_rfl)), ?_⟩
  refine GoR.done (GoQ.thn (GoC.seq (GoC.seq ?_)))
  refine GoC.regT [63, 63, 63, 63, 63, 63] (.rd 0 (.rd 1 (.rd 2 (.rd 3 (.ef 4 (.rd 5 .done)))))) (by kernel_rfl) (by kernel_rfl) ?_
  refine GoR.phaseK [(0, .gen []), (1, .gen []), (2, .gen []), (3, .gen [])] [8, 7, 4, 0, 1] [] [(8, .int .i64 i), (7, .bool true), (4, .pointer (some ⟨b1, 0, none⟩)), (0, .pointer (some ⟨p, 0, none⟩)), (1, .int .i64 i)] (by kernel_rfl) rfl ak0 ?_
  refine GoR.call rfl rfl (by kernel_rfl) (f := 31) (args := #[.int .i64 i]) (by kernel_rfl) Tryz.call31 (isClient_spec i  hs3) ?_
  rintro v5 w6 ⟨rfl, hs4⟩
  refine ⟨(opn (by kernel_rfl)), ?_⟩
  refine GoR.phaseK [(5, .gen [])] [10, 4, 0, 1] [] [(10, .bool (isClient i)), (4, .pointer (some ⟨b1, 0, none⟩)), (0, .pointer (some ⟨p, 0, none⟩)), (1, .int .i64 i)] (by kernel_rfl) rfl ak0 ?_
  refine GoR.done (GoQ.thn ?_)
  refine GoC.cond (t := isClient i) (by kernel_rfl) (fun h7 => ?_) (fun h7 => ?_)
  · have hi : 1 ≤ i ∧ i ≤ 8 := isClient_iff.1 h7
    refine GoC.regT [255, 255, 255, 255, 255, 255, 255, 255] (.rd 0 (.rd 1 (.rd 2 (.rd 3 (.rd 4 (.rd 5 (.rd 6 (.ef 7 .done)))))))) (by kernel_rfl) (by kernel_rfl) ?_
    refine GoR.phaseK [(0, .gen []), (1, .gen []), (2, .as_ (.int .i64 (i - 1)) (.gen [])), (3, .gen []), (4, .gen []), (5, .as_ (.pointer (some ⟨p, 0 + ((Int.toNat (i - 1)) * 3), none⟩)) .at_), (6, .agg (LastV.cells (l.getD (Int.toNat (i - 1)) dLast)))] [17, 4] [(2, [.prop (Value.int .i64 (IntKind.i64.wrap (i - 1)) = Value.int .i64 (i - 1))]), (5, [.prop (0 ≤ ((i - 1) : Int) ∧ ((i - 1) : Int) < (8 : Int)), .prop (Value.pointer (some (Addr.add ⟨p, 0, none⟩ (Int.toNat (i - 1) * 3))) = Value.pointer (some ⟨p, 0 + ((Int.toNat (i - 1)) * 3), none⟩))]), (6, [.prop (Array.size (LastV.cells (l.getD (Int.toNat (i - 1)) dLast)) = 3), .cells ⟨p, 0 + ((Int.toNat (i - 1)) * 3), none⟩ (LastV.cells (l.getD (Int.toNat (i - 1)) dLast))])] [(17, .agg (LastV.cells (l.getD (Int.toNat (i - 1)) dLast))), (4, .pointer (some ⟨b1, 0, none⟩))] (by kernel_rfl) rfl (ak (okp (i64ok (by omega) (by omega)) ok0) (ak (okp (by omega) (okp (ptrAdd _ _ _) ok0)) (ak (okp (by kernel_rfl) (oka (RowsAt.all0 (arr_rows hs4 1 rfl (lastF).size dLast) (by first | omega | (simp only [List.length_set]; omega)) (Nat.le_of_ble_eq_true (by kernel_rfl)) (by kernel_rfl)) ok0)) ak0))) ?_
    refine GoR.store rfl rfl (by kernel_rfl) (b := b1) (off := 0) (v := .agg (LastV.cells (l.getD (Int.toNat (i - 1)) dLast))) (by kernel_rfl) (by kernel_rfl) (ti := Tryz.t48) (by kernel_rfl) hs4 0 rfl (by kernel_rfl) (by kernel_rfl) (Nat.le_of_ble_eq_true (by kernel_rfl)) (cs' := LastV.cells (l.getD (Int.toNat (i - 1)) dLast)) (L' := (Cel b1 (LastV.cells (l.getD (Int.toNat (i - 1)) dLast)) 48) :: (Cel p (arrCells LastV.cells l) 78) :: L) (by kernel_rfl) rfl ?_
    intro w8 hs9
    refine ⟨(opn (by kernel_rfl)), ?_⟩
    refine GoR.done (GoQ.thn (GoC.seq ?_))
    refine GoC.regT [3, 3] (.rd 0 (.ef 1 .done)) (by kernel_rfl) (by kernel_rfl) ?_
    refine GoR.phaseK [(0, .agg (LastV.cells (l.getD (Int.toNat (i - 1)) dLast)))] [18, 4] [(0, [.prop (Array.size (LastV.cells (l.getD (Int.toNat (i - 1)) dLast)) = 3), .cells ⟨b1, 0, none⟩ (LastV.cells (l.getD (Int.toNat (i - 1)) dLast))])] [(18, .agg (LastV.cells (l.getD (Int.toNat (i - 1)) dLast))), (4, .pointer (some ⟨b1, 0, none⟩))] (by kernel_rfl) rfl (ak (okp (by kernel_rfl) (oka (hs9.cells 0 0 rfl (by kernel_rfl)) ok0)) ak0) ?_
    refine GoR.store rfl rfl (by kernel_rfl) (b := b1) (off := 0) (v := .agg (LastV.cells (l.getD (Int.toNat (i - 1)) dLast))) (by kernel_rfl) (by kernel_rfl) (ti := Tryz.t48) (by kernel_rfl) hs9 0 rfl (by kernel_rfl) (by kernel_rfl) (Nat.le_of_ble_eq_true (by kernel_rfl)) (cs' := LastV.cells (l.getD (Int.toNat (i - 1)) dLast)) (L' := (Cel b1 (LastV.cells (l.getD (Int.toNat (i - 1)) dLast)) 48) :: (Cel p (arrCells LastV.cells l) 78) :: L) (by kernel_rfl) rfl ?_
    intro w10 hs11
    refine ⟨(opn (by kernel_rfl)), ?_⟩
    refine GoR.done (GoQ.thn (GoC.ret ?_))
    refine GoQ.done (.inl rfl) (v := .agg (LastV.cells (l.getD (Int.toNat (i - 1)) dLast))) (fun a hf => resultsA rfl (by kernel_rfl) (ti := Tryz.t48) (by kernel_rfl) (by kernel_rfl) (vs := (LastV.cells (l.getD (Int.toNat (i - 1)) dLast))) (by kernel_rfl) (hs11.cells 0 0 rfl (by kernel_rfl)) a hf) ?_
    have hs12 : St w0 ((Cel p (arrCells LastV.cells l) 78) :: L) w10 := hs11.drop 1
    have hr : tlast l i = (l.getD (Int.toNat (i - 1)) dLast) := by rw [tlast, if_pos h7]
    exact ⟨by first | (rw [hr]; done) | (rw [hr]; rfl), hs12⟩
  · refine GoC.skip (GoQ.thn (GoC.seq ?_))
    refine GoC.regT [3, 3] (.rd 0 (.ef 1 .done)) (by kernel_rfl) (by kernel_rfl) ?_
    refine GoR.phaseK [(0, .agg #[.int .u64 0, .int .i64 0, .string (⟨#[]⟩ : ByteArray)])] [18, 4] [(0, [.prop (Array.size (#[.int .u64 0, .int .i64 0, .string (⟨#[]⟩ : ByteArray)] : Array Value) = 3), .cells ⟨b1, 0, none⟩ #[.int .u64 0, .int .i64 0, .string (⟨#[]⟩ : ByteArray)]])] [(18, .agg #[.int .u64 0, .int .i64 0, .string (⟨#[]⟩ : ByteArray)]), (4, .pointer (some ⟨b1, 0, none⟩))] (by kernel_rfl) rfl (ak (okp (by kernel_rfl) (oka (hs4.cells 0 0 rfl (by kernel_rfl)) ok0)) ak0) ?_
    refine GoR.store rfl rfl (by kernel_rfl) (b := b1) (off := 0) (v := .agg #[.int .u64 0, .int .i64 0, .string (⟨#[]⟩ : ByteArray)]) (by kernel_rfl) (by kernel_rfl) (ti := Tryz.t48) (by kernel_rfl) hs4 0 rfl (by kernel_rfl) (by kernel_rfl) (Nat.le_of_ble_eq_true (by kernel_rfl)) (cs' := #[.int .u64 0, .int .i64 0, .string (⟨#[]⟩ : ByteArray)]) (L' := (Cel b1 #[.int .u64 0, .int .i64 0, .string (⟨#[]⟩ : ByteArray)] 48) :: (Cel p (arrCells LastV.cells l) 78) :: L) (by kernel_rfl) rfl ?_
    intro w13 hs14
    refine ⟨(opn (by kernel_rfl)), ?_⟩
    refine GoR.done (GoQ.thn (GoC.ret ?_))
    refine GoQ.done (.inl rfl) (v := .agg #[.int .u64 0, .int .i64 0, .string (⟨#[]⟩ : ByteArray)]) (fun a hf => resultsA rfl (by kernel_rfl) (ti := Tryz.t48) (by kernel_rfl) (by kernel_rfl) (vs := #[.int .u64 0, .int .i64 0, .string (⟨#[]⟩ : ByteArray)]) (by kernel_rfl) (hs14.cells 0 0 rfl (by kernel_rfl)) a hf) ?_
    have hs15 : St w0 ((Cel p (arrCells LastV.cells l) 78) :: L) w13 := hs14.drop 1
    have hr : tlast l i = (⟨0, ⟨0, (⟨#[]⟩ : ByteArray)⟩⟩ : LastV) := by rw [tlast, if_neg (ne_true_of_eq_false h7)]
    exact ⟨by first | (rw [hr]; done) | (rw [hr]; rfl), hs15⟩
end Go.Proofs.YtggkhhogpallbaaGreatDoor
