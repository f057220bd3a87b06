/-
  Package ledger: plain functions.
-/
import Derived.Test.YtbmmknchcdhefaaGreatDoorSxT
import Derived.Test.YtbmmknchcdhefaaGreatDoorProg
namespace Go.Proofs.YtbmmknchcdhefaaGreatDoor
open Go.RowKit Go.Sx
set_option linter.unusedVariables false
set_option linter.unusedSimpArgs false
set_option linter.unnecessarySimpa false
set_option maxRecDepth 100000
structure OpV where
  kind : Int
  key : ByteArray
  value : ByteArray
  old : ByteArray
  dest : ByteArray
  amount : Int
deriving DecidableEq
def OpV.cells (o : OpV) : Array Value := #[.int .u8 o.kind, .string o.key, .string o.value, .string o.old, .string o.dest, .int .u64 o.amount]
structure RepV where
  err : Int
  value : ByteArray
deriving DecidableEq
def RepV.cells (o : RepV) : Array Value := #[.int .i64 o.err, .string o.value]
structure ItemV where
  key : ByteArray
  value : ByteArray
deriving DecidableEq
def ItemV.cells (o : ItemV) : Array Value := #[.string o.key, .string o.value]
abbrev dItem : ItemV := ⟨⟨#[]⟩, ⟨#[]⟩⟩
abbrev dOp : OpV := ⟨0, ⟨#[]⟩, ⟨#[]⟩, ⟨#[]⟩, ⟨#[]⟩, 0⟩
theorem itemF : CellF ItemV.cells 2 := ⟨fun _ => rfl, fun _ => rfl⟩
theorem itemsOK : ElemOK Tryz.prog 103 142 2 32 := ⟨by kernel_rfl, ⟨Tryz.t142, .agg #[.string ⟨#[]⟩, .string ⟨#[]⟩], by kernel_rfl, by kernel_rfl, by kernel_rfl, by kernel_rfl, by kernel_rfl⟩, by decide⟩
theorem mapLaw : MapLaw Tryz.prog 125 Value.string Value.string 9 9 :=
  MapLaw.now (by kernel_rfl) ⟨.string, by kernel_rfl, fun a b => by simp only [Instr.sameNow, beq_toListBytes, strEq], .inr (.inl rfl)⟩ (fun a => by simp [Instr.sameBits, beq_toListBytes]) (fun em a w => rfl)
theorem int_beq (a b : Int) : (a == b) = decide (a = b) := rfl
theorem opEq (a b : OpV) : eqFlat Tryz.prog 2 44 (.agg a.cells) (.agg b.cells) = decide (a = b) := by
  have h : eqFlat Tryz.prog 2 44 (.agg a.cells) (.agg b.cells) = (a.kind == b.kind && ((a.key.toList == b.key.toList) && ((a.value.toList == b.value.toList) && ((a.old.toList == b.old.toList) && ((a.dest.toList == b.dest.toList) && ((a.amount == b.amount) && true)))))) := by kernel_rfl
  rw [h, strEq, strEq, strEq, strEq, int_beq, int_beq, Bool.and_true]
  obtain ⟨a1, a2, a3, a4, a5, a6⟩ := a
  obtain ⟨b1, b2, b3, b4, b5, b6⟩ := b
  simp only [OpV.mk.injEq, Bool.decide_and]
theorem repEq (a b : RepV) : eqFlat Tryz.prog 2 51 (.agg a.cells) (.agg b.cells) = decide (a = b) := by
  have h : eqFlat Tryz.prog 2 51 (.agg a.cells) (.agg b.cells) = (a.err == b.err && ((a.value.toList == b.value.toList) && true)) := by kernel_rfl
  rw [h, strEq, int_beq, Bool.and_true]
  obtain ⟨a1, a2⟩ := a
  obtain ⟨b1, b2⟩ := b
  simp only [RepV.mk.injEq, Bool.decide_and]
def keyed (s : ByteArray) : Bool :=
  ((!(decide (s = (⟨#[]⟩ : ByteArray)))) && (decide (((s.size : Nat) : Int) ≤ 32)))
theorem keyed_spec {w0 w : World} {L : List Asn} (s : ByteArray) (hs : St w0 L w) : Calls Tryz.prog 81 #[.string s] w (Ret fun rv w' => rv = .bool (keyed s) ∧ St w0 L w') := by
  refine enter (args := [.string s]) Tryz.func81 rfl Tryz.ntmps81 (Nat.le_of_ble_eq_true (by kernel_rfl)) ?_
  refine GoC.slots (S' := [(0, .string s)]) rfl ?_
  refine GoC.seq ?_
  refine Xt (.rd 0 .done) ?_
  refine Xk [(0, .gen [])] [] [(2, .bool false), (0, .string s)] ak0 ?_
  refine GoR.done (GoQ.thn (GoC.seq ?_))
  refine GoC.join (T := Unit) (E := fun _ => [(2, .bool ((!(decide (s = (⟨#[]⟩ : ByteArray)))) && (decide (((s.size : Nat) : Int) ≤ 32))))]) (F := fun _ w => St w0 (L) w) ?_ ?_
  · refine Xt (.rd 0 (.rd 1 (.rd 2 (.rd 3 (.rd 4 (.rd 5 (.rd 6 (.rd 7 .done)))))))) ?_
    refine Xk [(0, .gen []), (1, .as_ (.bool (!(decide (s = (⟨#[]⟩ : ByteArray))))) (.gen [])), (2, .gen [])] [(1, [.prop (Value.bool (!(s.toList == (⟨#[]⟩ : ByteArray).toList)) = Value.bool (!(decide (s = (⟨#[]⟩ : ByteArray)))))])] [(5, .bool (!(decide (s = (⟨#[]⟩ : ByteArray))))), (2, .bool false), (0, .string s)] (ak (okp (sne _ _) ok0) ak0) ?_
    rcases Bool.eq_false_or_eq_true (!(decide (s = (⟨#[]⟩ : ByteArray)))) with h1 | h1
    · refine Xs 5 true h1 ?_
      have h1n : (decide (s = (⟨#[]⟩ : ByteArray))) = false := notT h1
      have h1n' : ¬ (s = (⟨#[]⟩ : ByteArray)) := of_decide_eq_false h1n
      refine Xk [(3, .gen []), (4, .gen []), (5, .gen []), (6, .gen []), (7, .gen [])] [] [(2, .bool (decide (((s.size : Nat) : Int) ≤ 32)))] ak0 ?_
      refine GoR.done ?_
      refine GoQ.pick [2] (S' := [(2, .bool (decide (((s.size : Nat) : Int) ≤ 32)))]) (by kernel_rfl) ?_
      exact GoQ.meet1 () (by first | rfl | (simp only [h1, h1n, Bool.not_true, Bool.not_false, Bool.true_or, Bool.false_or, Bool.true_and, Bool.false_and, Bool.or_true, Bool.or_false, Bool.and_true, Bool.and_false]; done) | (simp [h1, h1n]; done)) hs
    · refine Xs 5 false h1 ?_
      have h1n : (decide (s = (⟨#[]⟩ : ByteArray))) = true := notF h1
      have h1n' : s = (⟨#[]⟩ : ByteArray) := of_decide_eq_true h1n
      refine Xk [(3, .gen []), (4, .gen []), (5, .gen []), (6, .gen []), (7, .gen [])] [] [(2, .bool false)] ak0 ?_
      refine GoR.done ?_
      refine GoQ.pick [2] (S' := [(2, .bool false)]) (by kernel_rfl) ?_
      exact GoQ.meet1 () (by first | rfl | (simp only [h1, h1n, Bool.not_true, Bool.not_false, Bool.true_or, Bool.false_or, Bool.true_and, Bool.false_and, Bool.or_true, Bool.or_false, Bool.and_true, Bool.and_false]; done) | (simp [h1, h1n]; done)) hs
  intro _ w2 hs3
  refine GoQ.thn (GoC.ret ?_)
  refine X1 (v := .bool ((!(decide (s = (⟨#[]⟩ : ByteArray)))) && (decide (((s.size : Nat) : Int) ≤ 32)))) ?_
  have hr : keyed s = ((!(decide (s = (⟨#[]⟩ : ByteArray)))) && (decide (((s.size : Nat) : Int) ≤ 32))) := by rw [keyed]
  exact ⟨by first | (rw [hr]; done) | (rw [hr]; rfl), hs3.drop 0⟩
def valued (s : ByteArray) : Bool :=
  (decide (((s.size : Nat) : Int) ≤ 128))
theorem valued_spec {w0 w : World} {L : List Asn} (s : ByteArray) (hs : St w0 L w) : Calls Tryz.prog 82 #[.string s] w (Ret fun rv w' => rv = .bool (valued s) ∧ St w0 L w') := by
  refine enter (args := [.string s]) Tryz.func82 rfl Tryz.ntmps82 (Nat.le_of_ble_eq_true (by kernel_rfl)) ?_
  refine GoC.slots (S' := [(0, .string s)]) rfl ?_
  refine GoC.seq ?_
  refine Xt (.rd 0 .done) ?_
  refine Xk [(0, .gen [])] [] [(2, .bool false), (0, .string s)] ak0 ?_
  refine GoR.done (GoQ.thn (GoC.seq ?_))
  refine Xt (.rd 0 (.rd 1 (.rd 2 (.rd 3 .done)))) ?_
  refine Xk [(0, .gen []), (1, .gen []), (2, .gen []), (3, .gen [])] [] [(2, .bool (decide (((s.size : Nat) : Int) ≤ 128)))] ak0 ?_
  refine GoR.done (GoQ.thn (GoC.ret ?_))
  refine X1 (v := .bool (decide (((s.size : Nat) : Int) ≤ 128))) ?_
  have hr : valued s = (decide (((s.size : Nat) : Int) ≤ 128)) := by rw [valued]
  exact ⟨by first | (rw [hr]; done) | (rw [hr]; rfl), hs.drop 0⟩
def failed (e : Int) (v : ByteArray) : RepV :=
  (⟨e, v⟩ : RepV)
theorem failed_spec {w0 w : World} {L : List Asn} (e : Int) (v : ByteArray) (hs : St w0 L w) : Calls Tryz.prog 74 #[.int .i64 e, .string v] w (Ret fun rv w' => rv = .agg (RepV.cells (failed e v)) ∧ St w0 L w') := by
  refine enter (args := [.int .i64 e, .string v]) Tryz.func74 rfl Tryz.ntmps74 (Nat.le_of_ble_eq_true (by kernel_rfl)) ?_
  refine GoC.slots (S' := [(0, .int .i64 e), (1, .string v)]) rfl ?_
  refine GoC.seq ?_
  refine Xt (.ef 0 .done) ?_
  refine GoR.alloc rfl rfl (by kernel_rfl) (z := .agg #[.int .i64 0, .string (⟨#[]⟩ : ByteArray)]) (by kernel_rfl) hs (cs := #[.int .i64 0, .string (⟨#[]⟩ : ByteArray)]) (by kernel_rfl) ?_
  intro b1 w2 hs3
  refine ⟨Xo, ?_⟩
  refine GoR.done (GoQ.thn (GoC.seq ?_))
  refine Xt (.rd 0 (.rd 1 (.rd 2 (.ef 3 .done)))) ?_
  refine Xk [(0, .gen []), (1, .gen []), (2, .gen [])] [] [(7, .agg #[.int .i64 e, .string v]), (4, vp b1 0)] ak0 ?_
  refine GoR.store rfl rfl (by kernel_rfl) (b := b1) (off := 0) (v := .agg #[.int .i64 e, .string v]) (by kernel_rfl) (by kernel_rfl) (ti := Tryz.t51) (by kernel_rfl) hs3 0 rfl (by kernel_rfl) (by kernel_rfl) (Nat.le_of_ble_eq_true (by kernel_rfl)) (cs' := #[.int .i64 e, .string v]) (L' := (Cel b1 #[.int .i64 e, .string v] 51) :: L) (by kernel_rfl) rfl ?_
  intro w4 hs5
  refine ⟨Xo, ?_⟩
  refine GoR.done (GoQ.thn (GoC.ret ?_))
  refine GoQ.done (.inl rfl) (v := .agg #[.int .i64 e, .string v]) (fun a hf => resultsA rfl (by kernel_rfl) (ti := Tryz.t51) (by kernel_rfl) (by kernel_rfl) (vs := #[.int .i64 e, .string v]) (by kernel_rfl) (hs5.cells 0 0 rfl (by kernel_rfl)) a hf) ?_
  have hr : failed e v = (⟨e, v⟩ : RepV) := by rw [failed]
  exact ⟨by first | (rw [hr]; done) | (rw [hr]; rfl), hs5.drop 1⟩
def may (o : OpV) : Bool :=
  if ((o.kind : Int) == 1) = true then
    if (decide (o = (⟨o.kind, o.key, (⟨#[]⟩ : ByteArray), (⟨#[]⟩ : ByteArray), (⟨#[]⟩ : ByteArray), 0⟩ : OpV))) = true then
      if (keyed o.key) = true then
        if (valued o.value) = true then
          (valued o.old)
        else
          false
      else
        false
    else
      false
  else
    if ((o.kind : Int) == 3) = true then
      if (decide (o = (⟨o.kind, o.key, (⟨#[]⟩ : ByteArray), (⟨#[]⟩ : ByteArray), (⟨#[]⟩ : ByteArray), 0⟩ : OpV))) = true then
        if (keyed o.key) = true then
          if (valued o.value) = true then
            (valued o.old)
          else
            false
        else
          false
      else
        false
    else
      if ((o.kind : Int) == 4) = true then
        if (decide (o = (⟨o.kind, o.key, o.value, o.old, (⟨#[]⟩ : ByteArray), 0⟩ : OpV))) = true then
          if (keyed o.key) = true then
            if (valued o.value) = true then
              (valued o.old)
            else
              false
          else
            false
        else
          false
      else
        if ((o.kind : Int) == 2) = true then
          if (decide (o = (⟨o.kind, o.key, o.value, (⟨#[]⟩ : ByteArray), (⟨#[]⟩ : ByteArray), 0⟩ : OpV))) = true then
            if (keyed o.key) = true then
              if (valued o.value) = true then
                (valued o.old)
              else
                false
            else
              false
          else
            false
        else
          if ((o.kind : Int) == 5) = true then
            if (!(keyed o.dest)) = true then
              false
            else
              if (decide (o.dest = o.key)) = true then
                false
              else
                if (decide ((o.amount : Int) < 1)) = true then
                  false
                else
                  if (decide ((o.amount : Int) > 1125899906842624)) = true then
                    false
                  else
                    if (decide (o = (⟨o.kind, o.key, (⟨#[]⟩ : ByteArray), (⟨#[]⟩ : ByteArray), o.dest, o.amount⟩ : OpV))) = true then
                      if (keyed o.key) = true then
                        if (valued o.value) = true then
                          (valued o.old)
                        else
                          false
                      else
                        false
                    else
                      false
          else
            false
theorem may_spec {w0 w : World} {L : List Asn} (o : OpV) (hs : St w0 L w) : Calls Tryz.prog 75 #[.agg (OpV.cells o)] w (Ret fun rv w' => rv = .bool (may o) ∧ St w0 L w') := by
  refine enter (args := [.agg (OpV.cells o)]) Tryz.func75 rfl Tryz.ntmps75 (Nat.le_of_ble_eq_true (by kernel_rfl)) ?_
  refine GoC.slots (S' := [(0, .agg (OpV.cells o))]) rfl ?_
  refine GoC.seq ?_
  refine Xt (.ef 0 (.rd 1 .done)) ?_
  refine GoR.box rfl rfl (by kernel_rfl) (v := .agg (OpV.cells o)) (by kernel_rfl) hs (cs := OpV.cells o) (by kernel_rfl) ?_
  intro b1 w2 hs3
  refine ⟨Xo, ?_⟩
  refine Xk [(1, .gen [])] [] [(2, .bool false), (1, vp b1 0)] ak0 ?_
  refine GoR.done (GoQ.thn (GoC.seq ?_))
  refine Xt (.rd 0 (.rd 1 (.rd 2 (.rd 3 (.rd 4 (.ef 5 (.ef 6 .done))))))) ?_
  refine Xk [(0, .gen []), (1, .gen [.int .u8 o.kind]), (2, .gen []), (3, .gen [.string o.key]), (4, .gen [])] [(1, [.cell ⟨b1, 0, none⟩ (.int .u8 o.kind)]), (3, [.cell ⟨b1, 1, none⟩ (.string o.key)])] [(8, .agg #[.int .u8 o.kind, .string o.key, .string (⟨#[]⟩ : ByteArray), .string (⟨#[]⟩ : ByteArray), .string (⟨#[]⟩ : ByteArray), .int .u64 0]), (2, .bool false), (1, vp b1 0)] (ak (okc (hs3.cell 0 rfl (by kernel_rfl)) ok0) (ak (okc (hs3.cell 0 rfl (by kernel_rfl)) ok0) ak0)) ?_
  refine GoR.alloc rfl rfl (by kernel_rfl) (z := .agg #[.int .u8 0, .string (⟨#[]⟩ : ByteArray), .string (⟨#[]⟩ : ByteArray), .string (⟨#[]⟩ : ByteArray), .string (⟨#[]⟩ : ByteArray), .int .u64 0]) (by kernel_rfl) hs3 (cs := #[.int .u8 0, .string (⟨#[]⟩ : ByteArray), .string (⟨#[]⟩ : ByteArray), .string (⟨#[]⟩ : ByteArray), .string (⟨#[]⟩ : ByteArray), .int .u64 0]) (by kernel_rfl) ?_
  intro b4 w5 hs6
  refine ⟨Xo, ?_⟩
  refine GoR.store rfl rfl (by kernel_rfl) (b := b4) (off := 0) (v := .agg #[.int .u8 o.kind, .string o.key, .string (⟨#[]⟩ : ByteArray), .string (⟨#[]⟩ : ByteArray), .string (⟨#[]⟩ : ByteArray), .int .u64 0]) (by kernel_rfl) (by kernel_rfl) (ti := Tryz.t44) (by kernel_rfl) hs6 0 rfl (by kernel_rfl) (by kernel_rfl) (Nat.le_of_ble_eq_true (by kernel_rfl)) (cs' := #[.int .u8 o.kind, .string o.key, .string (⟨#[]⟩ : ByteArray), .string (⟨#[]⟩ : ByteArray), .string (⟨#[]⟩ : ByteArray), .int .u64 0]) (L' := (Cel b4 #[.int .u8 o.kind, .string o.key, .string (⟨#[]⟩ : ByteArray), .string (⟨#[]⟩ : ByteArray), .string (⟨#[]⟩ : ByteArray), .int .u64 0] 44) :: (Cel b1 (OpV.cells o) 44) :: L) (by kernel_rfl) rfl ?_
  intro w7 hs8
  refine ⟨Xo, ?_⟩
  refine GoR.done (GoQ.thn (GoC.seq (GoC.seq ?_)))
  refine Xt (.rd 0 (.rd 1 .done)) ?_
  refine Xk [(0, .gen []), (1, .gen [.int .u8 o.kind])] [(1, [.cell ⟨b1, 0, none⟩ (.int .u8 o.kind)])] [(10, .int .u8 o.kind), (3, vp b4 0), (2, .bool false), (1, vp b1 0)] (ak (okc (hs8.cell 1 rfl (by kernel_rfl)) ok0) ak0) ?_
  refine GoR.done (GoQ.thn (GoC.block (GoC.seq (GoC.block (GoC.seq (GoC.block (GoC.seq (GoC.block (GoC.seq (GoC.block (GoC.seq (GoC.block (GoC.seq (GoC.seq (GoC.seq (GoC.seq ?_))))))))))))))))
  refine Xt (.rd 0 (.rd 1 .done)) ?_
  refine Xk [(0, .gen []), (1, .gen [])] [] [(11, .bool ((o.kind : Int) == 1)), (10, .int .u8 o.kind), (3, vp b4 0), (2, .bool false), (1, vp b1 0)] ak0 ?_
  refine GoR.done (GoQ.thn ?_)
  refine Xc (t := (o.kind : Int) == 1) (fun h9 => ?_) (fun h9 => ?_)
  · have h9' : (o.kind : Int) = 1 := ieqT h9
    refine GoC.skip (GoQ.thn ?_)
    refine Xc (t := (o.kind : Int) == 1) (fun _ => ?_) (fun hc => absurd (h9.symm.trans hc) (by decide))
    refine GoC.exit (GoQ.skipC (GoQ.skipC (GoQ.hit (GoQ.thn (GoC.exit (GoQ.miss (by decide) (GoQ.skipC (GoQ.miss (by decide) (GoQ.skipC (GoQ.miss (by decide) (GoQ.skipC (GoQ.miss (by decide) (GoQ.skipC (GoQ.hit (GoQ.thn (GoC.seq ?_))))))))))))))))
    refine Xt (.rd 0 (.rd 1 (.rd 2 (.rd 3 (.rd 4 (.rd 5 (.ef 6 (.rd 7 (.rd 8 (.rd 9 (.rd 10 (.ef 11 (.rd 12 (.rd 13 (.rd 14 (.rd 15 (.ef 16 (.rd 17 (.rd 18 .done))))))))))))))))))) ?_
    refine Xk [(0, .agg (OpV.cells o)), (1, .agg #[.int .u8 o.kind, .string o.key, .string (⟨#[]⟩ : ByteArray), .string (⟨#[]⟩ : ByteArray), .string (⟨#[]⟩ : ByteArray), .int .u64 0])] [(0, [.prop (Array.size (OpV.cells o) = 6), .cells ⟨b1, 0, none⟩ (OpV.cells o)]), (1, [.prop (Array.size (#[.int .u8 o.kind, .string o.key, .string (⟨#[]⟩ : ByteArray), .string (⟨#[]⟩ : ByteArray), .string (⟨#[]⟩ : ByteArray), .int .u64 0] : Array Value) = 6), .cells ⟨b4, 0, none⟩ #[.int .u8 o.kind, .string o.key, .string (⟨#[]⟩ : ByteArray), .string (⟨#[]⟩ : ByteArray), .string (⟨#[]⟩ : ByteArray), .int .u64 0]])] [(54, .agg #[.int .u8 o.kind, .string o.key, .string (⟨#[]⟩ : ByteArray), .string (⟨#[]⟩ : ByteArray), .string (⟨#[]⟩ : ByteArray), .int .u64 0]), (53, .agg (OpV.cells o)), (2, .bool false), (1, vp b1 0)] (ak (okp (by kernel_rfl) (oka (hs8.cells 1 0 rfl (by kernel_rfl)) ok0)) (ak (okp (by kernel_rfl) (oka (hs8.cells 0 0 rfl (by kernel_rfl)) ok0)) ak0)) ?_
    refine GoR.eqAgg rfl (by kernel_rfl) (b := true) (t := 44) (xs := OpV.cells o) (ys := OpV.cells (⟨o.kind, o.key, (⟨#[]⟩ : ByteArray), (⟨#[]⟩ : ByteArray), (⟨#[]⟩ : ByteArray), 0⟩ : OpV)) (m := 2) (by kernel_rfl) (by kernel_rfl) (by decide) (by kernel_rfl) (r := decide (o = (⟨o.kind, o.key, (⟨#[]⟩ : ByteArray), (⟨#[]⟩ : ByteArray), (⟨#[]⟩ : ByteArray), 0⟩ : OpV))) (aggEq  (opEq o (⟨o.kind, o.key, (⟨#[]⟩ : ByteArray), (⟨#[]⟩ : ByteArray), (⟨#[]⟩ : ByteArray), 0⟩ : OpV))) ?_
    refine Xk [(3, .gen [])] [] [(56, .bool (decide (o = (⟨o.kind, o.key, (⟨#[]⟩ : ByteArray), (⟨#[]⟩ : ByteArray), (⟨#[]⟩ : ByteArray), 0⟩ : OpV)))), (2, .bool false), (1, vp b1 0)] ak0 ?_
    rcases Bool.eq_false_or_eq_true (decide (o = (⟨o.kind, o.key, (⟨#[]⟩ : ByteArray), (⟨#[]⟩ : ByteArray), (⟨#[]⟩ : ByteArray), 0⟩ : OpV))) with h10 | h10
    · refine Xs 56 true h10 ?_
      have h10' : o = (⟨o.kind, o.key, (⟨#[]⟩ : ByteArray), (⟨#[]⟩ : ByteArray), (⟨#[]⟩ : ByteArray), 0⟩ : OpV) := of_decide_eq_true h10
      refine Xk [(4, .gen []), (5, .gen [.string o.key])] [(5, [.cell ⟨b1, 1, none⟩ (.string o.key)])] [(58, .string o.key), (56, .bool true), (2, .bool false), (1, vp b1 0)] (ak (okc (hs8.cell 1 rfl (by kernel_rfl)) ok0) ak0) ?_
      refine Xa (f := 81) (args := #[.string o.key]) Tryz.call81 (keyed_spec o.key  hs8) ?_
      rintro v12 w13 ⟨rfl, hs11⟩
      refine ⟨Xo, ?_⟩
      refine Xk [(7, .gen []), (8, .gen [])] [] [(61, .bool (keyed o.key)), (2, .bool false), (1, vp b1 0)] ak0 ?_
      rcases Bool.eq_false_or_eq_true (keyed o.key) with h14 | h14
      · refine Xs 61 true h14 ?_
        refine Xk [(9, .gen []), (10, .gen [.string o.value])] [(10, [.cell ⟨b1, 2, none⟩ (.string o.value)])] [(63, .string o.value), (61, .bool true), (2, .bool false), (1, vp b1 0)] (ak (okc (hs11.cell 1 rfl (by kernel_rfl)) ok0) ak0) ?_
        refine Xa (f := 82) (args := #[.string o.value]) Tryz.call82 (valued_spec o.value  hs11) ?_
        rintro v16 w17 ⟨rfl, hs15⟩
        refine ⟨Xo, ?_⟩
        refine Xk [(12, .gen []), (13, .gen [])] [] [(66, .bool (valued o.value)), (2, .bool false), (1, vp b1 0)] ak0 ?_
        rcases Bool.eq_false_or_eq_true (valued o.value) with h18 | h18
        · refine Xs 66 true h18 ?_
          refine Xk [(14, .gen []), (15, .gen [.string o.old])] [(15, [.cell ⟨b1, 3, none⟩ (.string o.old)])] [(68, .string o.old), (66, .bool true), (2, .bool false)] (ak (okc (hs15.cell 1 rfl (by kernel_rfl)) ok0) ak0) ?_
          refine Xa (f := 82) (args := #[.string o.old]) Tryz.call82 (valued_spec o.old  hs15) ?_
          rintro v20 w21 ⟨rfl, hs19⟩
          refine ⟨Xo, ?_⟩
          refine Xk [(17, .gen []), (18, .gen [])] [] [(2, .bool (valued o.old))] ak0 ?_
          refine GoR.done (GoQ.thn (GoC.ret ?_))
          refine X1 (v := .bool (valued o.old)) ?_
          have hr : may o = (valued o.old) := by rw [may, if_pos h9, if_pos h10, if_pos h14, if_pos h18]
          exact ⟨by first | (rw [hr]; done) | (rw [hr]; rfl), hs19.drop 2⟩
        · refine Xs 66 false h18 ?_
          refine Xk [(14, .gen []), (15, .gen [])] [] [(68, undef), (66, .bool false), (2, .bool false)] ak0 ?_
          refine GoR.skip rfl (by kernel_rfl) Xo ?_
          refine Xk [(17, .gen []), (18, .gen [])] [] [(2, .bool false)] ak0 ?_
          refine GoR.done (GoQ.thn (GoC.ret ?_))
          refine X1 (v := .bool false) ?_
          have hr : may o = false := by rw [may, if_pos h9, if_pos h10, if_pos h14, if_neg (ne_true_of_eq_false h18)]
          exact ⟨by first | (rw [hr]; done) | (rw [hr]; rfl), hs15.drop 2⟩
      · refine Xs 61 false h14 ?_
        refine Xk [(9, .gen []), (10, .gen [])] [] [(63, undef), (61, .bool false), (2, .bool false), (1, vp b1 0)] ak0 ?_
        refine GoR.skip rfl (by kernel_rfl) Xo ?_
        refine Xk [(12, .gen []), (13, .gen []), (14, .gen []), (15, .gen [])] [] [(68, undef), (66, .bool false), (2, .bool false)] ak0 ?_
        refine GoR.skip rfl (by kernel_rfl) Xo ?_
        refine Xk [(17, .gen []), (18, .gen [])] [] [(2, .bool false)] ak0 ?_
        refine GoR.done (GoQ.thn (GoC.ret ?_))
        refine X1 (v := .bool false) ?_
        have hr : may o = false := by rw [may, if_pos h9, if_pos h10, if_neg (ne_true_of_eq_false h14)]
        exact ⟨by first | (rw [hr]; done) | (rw [hr]; rfl), hs11.drop 2⟩
    · refine Xs 56 false h10 ?_
      have h10' : ¬ (o = (⟨o.kind, o.key, (⟨#[]⟩ : ByteArray), (⟨#[]⟩ : ByteArray), (⟨#[]⟩ : ByteArray), 0⟩ : OpV)) := of_decide_eq_false h10
      refine Xk [(4, .gen []), (5, .gen [])] [] [(58, undef), (56, .bool false), (2, .bool false), (1, vp b1 0)] ak0 ?_
      refine GoR.skip rfl (by kernel_rfl) Xo ?_
      refine Xk [(7, .gen []), (8, .gen []), (9, .gen []), (10, .gen [])] [] [(63, undef), (61, .bool false), (2, .bool false), (1, vp b1 0)] ak0 ?_
      refine GoR.skip rfl (by kernel_rfl) Xo ?_
      refine Xk [(12, .gen []), (13, .gen []), (14, .gen []), (15, .gen [])] [] [(68, undef), (66, .bool false), (2, .bool false)] ak0 ?_
      refine GoR.skip rfl (by kernel_rfl) Xo ?_
      refine Xk [(17, .gen []), (18, .gen [])] [] [(2, .bool false)] ak0 ?_
      refine GoR.done (GoQ.thn (GoC.ret ?_))
      refine X1 (v := .bool false) ?_
      have hr : may o = false := by rw [may, if_pos h9, if_neg (ne_true_of_eq_false h10)]
      exact ⟨by first | (rw [hr]; done) | (rw [hr]; rfl), hs8.drop 2⟩
  · have h9' : ¬ ((o.kind : Int) = 1) := ieqF h9
    refine Xt (.rd 0 (.rd 1 .done)) ?_
    refine Xk [(0, .gen []), (1, .gen [])] [] [(11, .bool ((o.kind : Int) == 3)), (10, .int .u8 o.kind), (3, vp b4 0), (2, .bool false), (1, vp b1 0)] ak0 ?_
    refine GoR.done (GoQ.thn ?_)
    refine Xc (t := (o.kind : Int) == 3) (fun h22 => ?_) (fun h22 => ?_)
    · have h22' : (o.kind : Int) = 3 := ieqT h22
      refine GoC.exit (GoQ.skipC (GoQ.skipC (GoQ.hit (GoQ.thn (GoC.exit (GoQ.miss (by decide) (GoQ.skipC (GoQ.miss (by decide) (GoQ.skipC (GoQ.miss (by decide) (GoQ.skipC (GoQ.miss (by decide) (GoQ.skipC (GoQ.hit (GoQ.thn (GoC.seq ?_))))))))))))))))
      refine Xt (.rd 0 (.rd 1 (.rd 2 (.rd 3 (.rd 4 (.rd 5 (.ef 6 (.rd 7 (.rd 8 (.rd 9 (.rd 10 (.ef 11 (.rd 12 (.rd 13 (.rd 14 (.rd 15 (.ef 16 (.rd 17 (.rd 18 .done))))))))))))))))))) ?_
      refine Xk [(0, .agg (OpV.cells o)), (1, .agg #[.int .u8 o.kind, .string o.key, .string (⟨#[]⟩ : ByteArray), .string (⟨#[]⟩ : ByteArray), .string (⟨#[]⟩ : ByteArray), .int .u64 0])] [(0, [.prop (Array.size (OpV.cells o) = 6), .cells ⟨b1, 0, none⟩ (OpV.cells o)]), (1, [.prop (Array.size (#[.int .u8 o.kind, .string o.key, .string (⟨#[]⟩ : ByteArray), .string (⟨#[]⟩ : ByteArray), .string (⟨#[]⟩ : ByteArray), .int .u64 0] : Array Value) = 6), .cells ⟨b4, 0, none⟩ #[.int .u8 o.kind, .string o.key, .string (⟨#[]⟩ : ByteArray), .string (⟨#[]⟩ : ByteArray), .string (⟨#[]⟩ : ByteArray), .int .u64 0]])] [(54, .agg #[.int .u8 o.kind, .string o.key, .string (⟨#[]⟩ : ByteArray), .string (⟨#[]⟩ : ByteArray), .string (⟨#[]⟩ : ByteArray), .int .u64 0]), (53, .agg (OpV.cells o)), (2, .bool false), (1, vp b1 0)] (ak (okp (by kernel_rfl) (oka (hs8.cells 1 0 rfl (by kernel_rfl)) ok0)) (ak (okp (by kernel_rfl) (oka (hs8.cells 0 0 rfl (by kernel_rfl)) ok0)) ak0)) ?_
      refine GoR.eqAgg rfl (by kernel_rfl) (b := true) (t := 44) (xs := OpV.cells o) (ys := OpV.cells (⟨o.kind, o.key, (⟨#[]⟩ : ByteArray), (⟨#[]⟩ : ByteArray), (⟨#[]⟩ : ByteArray), 0⟩ : OpV)) (m := 2) (by kernel_rfl) (by kernel_rfl) (by decide) (by kernel_rfl) (r := decide (o = (⟨o.kind, o.key, (⟨#[]⟩ : ByteArray), (⟨#[]⟩ : ByteArray), (⟨#[]⟩ : ByteArray), 0⟩ : OpV))) (aggEq  (opEq o (⟨o.kind, o.key, (⟨#[]⟩ : ByteArray), (⟨#[]⟩ : ByteArray), (⟨#[]⟩ : ByteArray), 0⟩ : OpV))) ?_
      refine Xk [(3, .gen [])] [] [(56, .bool (decide (o = (⟨o.kind, o.key, (⟨#[]⟩ : ByteArray), (⟨#[]⟩ : ByteArray), (⟨#[]⟩ : ByteArray), 0⟩ : OpV)))), (2, .bool false), (1, vp b1 0)] ak0 ?_
      rcases Bool.eq_false_or_eq_true (decide (o = (⟨o.kind, o.key, (⟨#[]⟩ : ByteArray), (⟨#[]⟩ : ByteArray), (⟨#[]⟩ : ByteArray), 0⟩ : OpV))) with h23 | h23
      · refine Xs 56 true h23 ?_
        have h23' : o = (⟨o.kind, o.key, (⟨#[]⟩ : ByteArray), (⟨#[]⟩ : ByteArray), (⟨#[]⟩ : ByteArray), 0⟩ : OpV) := of_decide_eq_true h23
        refine Xk [(4, .gen []), (5, .gen [.string o.key])] [(5, [.cell ⟨b1, 1, none⟩ (.string o.key)])] [(58, .string o.key), (56, .bool true), (2, .bool false), (1, vp b1 0)] (ak (okc (hs8.cell 1 rfl (by kernel_rfl)) ok0) ak0) ?_
        refine Xa (f := 81) (args := #[.string o.key]) Tryz.call81 (keyed_spec o.key  hs8) ?_
        rintro v25 w26 ⟨rfl, hs24⟩
        refine ⟨Xo, ?_⟩
        refine Xk [(7, .gen []), (8, .gen [])] [] [(61, .bool (keyed o.key)), (2, .bool false), (1, vp b1 0)] ak0 ?_
        rcases Bool.eq_false_or_eq_true (keyed o.key) with h27 | h27
        · refine Xs 61 true h27 ?_
          refine Xk [(9, .gen []), (10, .gen [.string o.value])] [(10, [.cell ⟨b1, 2, none⟩ (.string o.value)])] [(63, .string o.value), (61, .bool true), (2, .bool false), (1, vp b1 0)] (ak (okc (hs24.cell 1 rfl (by kernel_rfl)) ok0) ak0) ?_
          refine Xa (f := 82) (args := #[.string o.value]) Tryz.call82 (valued_spec o.value  hs24) ?_
          rintro v29 w30 ⟨rfl, hs28⟩
          refine ⟨Xo, ?_⟩
          refine Xk [(12, .gen []), (13, .gen [])] [] [(66, .bool (valued o.value)), (2, .bool false), (1, vp b1 0)] ak0 ?_
          rcases Bool.eq_false_or_eq_true (valued o.value) with h31 | h31
          · refine Xs 66 true h31 ?_
            refine Xk [(14, .gen []), (15, .gen [.string o.old])] [(15, [.cell ⟨b1, 3, none⟩ (.string o.old)])] [(68, .string o.old), (66, .bool true), (2, .bool false)] (ak (okc (hs28.cell 1 rfl (by kernel_rfl)) ok0) ak0) ?_
            refine Xa (f := 82) (args := #[.string o.old]) Tryz.call82 (valued_spec o.old  hs28) ?_
            rintro v33 w34 ⟨rfl, hs32⟩
            refine ⟨Xo, ?_⟩
            refine Xk [(17, .gen []), (18, .gen [])] [] [(2, .bool (valued o.old))] ak0 ?_
            refine GoR.done (GoQ.thn (GoC.ret ?_))
            refine X1 (v := .bool (valued o.old)) ?_
            have hr : may o = (valued o.old) := by rw [may, if_neg (ne_true_of_eq_false h9), if_pos h22, if_pos h23, if_pos h27, if_pos h31]
            exact ⟨by first | (rw [hr]; done) | (rw [hr]; rfl), hs32.drop 2⟩
          · refine Xs 66 false h31 ?_
            refine Xk [(14, .gen []), (15, .gen [])] [] [(68, undef), (66, .bool false), (2, .bool false)] ak0 ?_
            refine GoR.skip rfl (by kernel_rfl) Xo ?_
            refine Xk [(17, .gen []), (18, .gen [])] [] [(2, .bool false)] ak0 ?_
            refine GoR.done (GoQ.thn (GoC.ret ?_))
            refine X1 (v := .bool false) ?_
            have hr : may o = false := by rw [may, if_neg (ne_true_of_eq_false h9), if_pos h22, if_pos h23, if_pos h27, if_neg (ne_true_of_eq_false h31)]
            exact ⟨by first | (rw [hr]; done) | (rw [hr]; rfl), hs28.drop 2⟩
        · refine Xs 61 false h27 ?_
          refine Xk [(9, .gen []), (10, .gen [])] [] [(63, undef), (61, .bool false), (2, .bool false), (1, vp b1 0)] ak0 ?_
          refine GoR.skip rfl (by kernel_rfl) Xo ?_
          refine Xk [(12, .gen []), (13, .gen []), (14, .gen []), (15, .gen [])] [] [(68, undef), (66, .bool false), (2, .bool false)] ak0 ?_
          refine GoR.skip rfl (by kernel_rfl) Xo ?_
          refine Xk [(17, .gen []), (18, .gen [])] [] [(2, .bool false)] ak0 ?_
          refine GoR.done (GoQ.thn (GoC.ret ?_))
          refine X1 (v := .bool false) ?_
          have hr : may o = false := by rw [may, if_neg (ne_true_of_eq_false h9), if_pos h22, if_pos h23, if_neg (ne_true_of_eq_false h27)]
          exact ⟨by first | (rw [hr]; done) | (rw [hr]; rfl), hs24.drop 2⟩
      · refine Xs 56 false h23 ?_
        have h23' : ¬ (o = (⟨o.kind, o.key, (⟨#[]⟩ : ByteArray), (⟨#[]⟩ : ByteArray), (⟨#[]⟩ : ByteArray), 0⟩ : OpV)) := of_decide_eq_false h23
        refine Xk [(4, .gen []), (5, .gen [])] [] [(58, undef), (56, .bool false), (2, .bool false), (1, vp b1 0)] ak0 ?_
        refine GoR.skip rfl (by kernel_rfl) Xo ?_
        refine Xk [(7, .gen []), (8, .gen []), (9, .gen []), (10, .gen [])] [] [(63, undef), (61, .bool false), (2, .bool false), (1, vp b1 0)] ak0 ?_
        refine GoR.skip rfl (by kernel_rfl) Xo ?_
        refine Xk [(12, .gen []), (13, .gen []), (14, .gen []), (15, .gen [])] [] [(68, undef), (66, .bool false), (2, .bool false)] ak0 ?_
        refine GoR.skip rfl (by kernel_rfl) Xo ?_
        refine Xk [(17, .gen []), (18, .gen [])] [] [(2, .bool false)] ak0 ?_
        refine GoR.done (GoQ.thn (GoC.ret ?_))
        refine X1 (v := .bool false) ?_
        have hr : may o = false := by rw [may, if_neg (ne_true_of_eq_false h9), if_pos h22, if_neg (ne_true_of_eq_false h23)]
        exact ⟨by first | (rw [hr]; done) | (rw [hr]; rfl), hs8.drop 2⟩
    · have h22' : ¬ ((o.kind : Int) = 3) := ieqF h22
      refine GoC.skip (GoQ.thn (GoC.seq (GoC.seq ?_)))
      refine Xt (.rd 0 (.rd 1 .done)) ?_
      refine Xk [(0, .gen []), (1, .gen [])] [] [(14, .bool ((o.kind : Int) == 4)), (10, .int .u8 o.kind), (3, vp b4 0), (2, .bool false), (1, vp b1 0)] ak0 ?_
      refine GoR.done (GoQ.thn ?_)
      refine Xc (t := (o.kind : Int) == 4) (fun h35 => ?_) (fun h35 => ?_)
      · have h35' : (o.kind : Int) = 4 := ieqT h35
        refine GoC.exit (GoQ.skipC (GoQ.skipC (GoQ.miss (by decide) (GoQ.skipC (GoQ.hit (GoQ.thn ?_))))))
        refine Xt (.rd 0 (.rd 1 (.rd 2 (.ef 3 .done)))) ?_
        refine Xk [(0, .gen []), (1, .gen [.string o.old]), (2, .gen [])] [(1, [.cell ⟨b1, 3, none⟩ (.string o.old)])] [(22, vp b4 3), (21, .string o.old), (3, vp b4 0), (2, .bool false), (1, vp b1 0)] (ak (okc (hs8.cell 1 rfl (by kernel_rfl)) ok0) ak0) ?_
        refine GoR.store rfl rfl (by kernel_rfl) (b := b4) (off := 3) (v := .string o.old) (by kernel_rfl) (by kernel_rfl) (ti := Tryz.t9) (by kernel_rfl) hs8 0 rfl (by kernel_rfl) (by kernel_rfl) (Nat.le_of_ble_eq_true (by kernel_rfl)) (cs' := #[.int .u8 o.kind, .string o.key, .string (⟨#[]⟩ : ByteArray), .string o.old, .string (⟨#[]⟩ : ByteArray), .int .u64 0]) (L' := (Cel b4 #[.int .u8 o.kind, .string o.key, .string (⟨#[]⟩ : ByteArray), .string o.old, .string (⟨#[]⟩ : ByteArray), .int .u64 0] 44) :: (Cel b1 (OpV.cells o) 44) :: L) (by kernel_rfl) rfl ?_
        intro w36 hs37
        refine ⟨Xo, ?_⟩
        refine GoR.done (GoQ.blkN (GoQ.thn (GoC.seq ?_)))
        refine Xt (.rd 0 (.rd 1 (.rd 2 (.ef 3 .done)))) ?_
        refine Xk [(0, .gen []), (1, .gen [.string o.value]), (2, .gen [])] [(1, [.cell ⟨b1, 2, none⟩ (.string o.value)])] [(25, vp b4 2), (24, .string o.value), (3, vp b4 0), (2, .bool false), (1, vp b1 0)] (ak (okc (hs37.cell 1 rfl (by kernel_rfl)) ok0) ak0) ?_
        refine GoR.store rfl rfl (by kernel_rfl) (b := b4) (off := 2) (v := .string o.value) (by kernel_rfl) (by kernel_rfl) (ti := Tryz.t9) (by kernel_rfl) hs37 0 rfl (by kernel_rfl) (by kernel_rfl) (Nat.le_of_ble_eq_true (by kernel_rfl)) (cs' := #[.int .u8 o.kind, .string o.key, .string o.value, .string o.old, .string (⟨#[]⟩ : ByteArray), .int .u64 0]) (L' := (Cel b4 #[.int .u8 o.kind, .string o.key, .string o.value, .string o.old, .string (⟨#[]⟩ : ByteArray), .int .u64 0] 44) :: (Cel b1 (OpV.cells o) 44) :: L) (by kernel_rfl) rfl ?_
        intro w38 hs39
        refine ⟨Xo, ?_⟩
        refine GoR.done (GoQ.thn (GoC.exit (GoQ.miss (by decide) (GoQ.skipC (GoQ.miss (by decide) (GoQ.skipC (GoQ.hit (GoQ.thn (GoC.seq ?_)))))))))
        refine Xt (.rd 0 (.rd 1 (.rd 2 (.rd 3 (.rd 4 (.rd 5 (.ef 6 (.rd 7 (.rd 8 (.rd 9 (.rd 10 (.ef 11 (.rd 12 (.rd 13 (.rd 14 (.rd 15 (.ef 16 (.rd 17 (.rd 18 .done))))))))))))))))))) ?_
        refine Xk [(0, .agg (OpV.cells o)), (1, .agg #[.int .u8 o.kind, .string o.key, .string o.value, .string o.old, .string (⟨#[]⟩ : ByteArray), .int .u64 0])] [(0, [.prop (Array.size (OpV.cells o) = 6), .cells ⟨b1, 0, none⟩ (OpV.cells o)]), (1, [.prop (Array.size (#[.int .u8 o.kind, .string o.key, .string o.value, .string o.old, .string (⟨#[]⟩ : ByteArray), .int .u64 0] : Array Value) = 6), .cells ⟨b4, 0, none⟩ #[.int .u8 o.kind, .string o.key, .string o.value, .string o.old, .string (⟨#[]⟩ : ByteArray), .int .u64 0]])] [(54, .agg #[.int .u8 o.kind, .string o.key, .string o.value, .string o.old, .string (⟨#[]⟩ : ByteArray), .int .u64 0]), (53, .agg (OpV.cells o)), (2, .bool false), (1, vp b1 0)] (ak (okp (by kernel_rfl) (oka (hs39.cells 1 0 rfl (by kernel_rfl)) ok0)) (ak (okp (by kernel_rfl) (oka (hs39.cells 0 0 rfl (by kernel_rfl)) ok0)) ak0)) ?_
        refine GoR.eqAgg rfl (by kernel_rfl) (b := true) (t := 44) (xs := OpV.cells o) (ys := OpV.cells (⟨o.kind, o.key, o.value, o.old, (⟨#[]⟩ : ByteArray), 0⟩ : OpV)) (m := 2) (by kernel_rfl) (by kernel_rfl) (by decide) (by kernel_rfl) (r := decide (o = (⟨o.kind, o.key, o.value, o.old, (⟨#[]⟩ : ByteArray), 0⟩ : OpV))) (aggEq  (opEq o (⟨o.kind, o.key, o.value, o.old, (⟨#[]⟩ : ByteArray), 0⟩ : OpV))) ?_
        refine Xk [(3, .gen [])] [] [(56, .bool (decide (o = (⟨o.kind, o.key, o.value, o.old, (⟨#[]⟩ : ByteArray), 0⟩ : OpV)))), (2, .bool false), (1, vp b1 0)] ak0 ?_
        rcases Bool.eq_false_or_eq_true (decide (o = (⟨o.kind, o.key, o.value, o.old, (⟨#[]⟩ : ByteArray), 0⟩ : OpV))) with h40 | h40
        · refine Xs 56 true h40 ?_
          have h40' : o = (⟨o.kind, o.key, o.value, o.old, (⟨#[]⟩ : ByteArray), 0⟩ : OpV) := of_decide_eq_true h40
          refine Xk [(4, .gen []), (5, .gen [.string o.key])] [(5, [.cell ⟨b1, 1, none⟩ (.string o.key)])] [(58, .string o.key), (56, .bool true), (2, .bool false), (1, vp b1 0)] (ak (okc (hs39.cell 1 rfl (by kernel_rfl)) ok0) ak0) ?_
          refine Xa (f := 81) (args := #[.string o.key]) Tryz.call81 (keyed_spec o.key  hs39) ?_
          rintro v42 w43 ⟨rfl, hs41⟩
          refine ⟨Xo, ?_⟩
          refine Xk [(7, .gen []), (8, .gen [])] [] [(61, .bool (keyed o.key)), (2, .bool false), (1, vp b1 0)] ak0 ?_
          rcases Bool.eq_false_or_eq_true (keyed o.key) with h44 | h44
          · refine Xs 61 true h44 ?_
            refine Xk [(9, .gen []), (10, .gen [.string o.value])] [(10, [.cell ⟨b1, 2, none⟩ (.string o.value)])] [(63, .string o.value), (61, .bool true), (2, .bool false), (1, vp b1 0)] (ak (okc (hs41.cell 1 rfl (by kernel_rfl)) ok0) ak0) ?_
            refine Xa (f := 82) (args := #[.string o.value]) Tryz.call82 (valued_spec o.value  hs41) ?_
            rintro v46 w47 ⟨rfl, hs45⟩
            refine ⟨Xo, ?_⟩
            refine Xk [(12, .gen []), (13, .gen [])] [] [(66, .bool (valued o.value)), (2, .bool false), (1, vp b1 0)] ak0 ?_
            rcases Bool.eq_false_or_eq_true (valued o.value) with h48 | h48
            · refine Xs 66 true h48 ?_
              refine Xk [(14, .gen []), (15, .gen [.string o.old])] [(15, [.cell ⟨b1, 3, none⟩ (.string o.old)])] [(68, .string o.old), (66, .bool true), (2, .bool false)] (ak (okc (hs45.cell 1 rfl (by kernel_rfl)) ok0) ak0) ?_
              refine Xa (f := 82) (args := #[.string o.old]) Tryz.call82 (valued_spec o.old  hs45) ?_
              rintro v50 w51 ⟨rfl, hs49⟩
              refine ⟨Xo, ?_⟩
              refine Xk [(17, .gen []), (18, .gen [])] [] [(2, .bool (valued o.old))] ak0 ?_
              refine GoR.done (GoQ.thn (GoC.ret ?_))
              refine X1 (v := .bool (valued o.old)) ?_
              have hr : may o = (valued o.old) := by rw [may, if_neg (ne_true_of_eq_false h9), if_neg (ne_true_of_eq_false h22), if_pos h35, if_pos h40, if_pos h44, if_pos h48]
              exact ⟨by first | (rw [hr]; done) | (rw [hr]; rfl), hs49.drop 2⟩
            · refine Xs 66 false h48 ?_
              refine Xk [(14, .gen []), (15, .gen [])] [] [(68, undef), (66, .bool false), (2, .bool false)] ak0 ?_
              refine GoR.skip rfl (by kernel_rfl) Xo ?_
              refine Xk [(17, .gen []), (18, .gen [])] [] [(2, .bool false)] ak0 ?_
              refine GoR.done (GoQ.thn (GoC.ret ?_))
              refine X1 (v := .bool false) ?_
              have hr : may o = false := by rw [may, if_neg (ne_true_of_eq_false h9), if_neg (ne_true_of_eq_false h22), if_pos h35, if_pos h40, if_pos h44, if_neg (ne_true_of_eq_false h48)]
              exact ⟨by first | (rw [hr]; done) | (rw [hr]; rfl), hs45.drop 2⟩
          · refine Xs 61 false h44 ?_
            refine Xk [(9, .gen []), (10, .gen [])] [] [(63, undef), (61, .bool false), (2, .bool false), (1, vp b1 0)] ak0 ?_
            refine GoR.skip rfl (by kernel_rfl) Xo ?_
            refine Xk [(12, .gen []), (13, .gen []), (14, .gen []), (15, .gen [])] [] [(68, undef), (66, .bool false), (2, .bool false)] ak0 ?_
            refine GoR.skip rfl (by kernel_rfl) Xo ?_
            refine Xk [(17, .gen []), (18, .gen [])] [] [(2, .bool false)] ak0 ?_
            refine GoR.done (GoQ.thn (GoC.ret ?_))
            refine X1 (v := .bool false) ?_
            have hr : may o = false := by rw [may, if_neg (ne_true_of_eq_false h9), if_neg (ne_true_of_eq_false h22), if_pos h35, if_pos h40, if_neg (ne_true_of_eq_false h44)]
            exact ⟨by first | (rw [hr]; done) | (rw [hr]; rfl), hs41.drop 2⟩
        · refine Xs 56 false h40 ?_
          have h40' : ¬ (o = (⟨o.kind, o.key, o.value, o.old, (⟨#[]⟩ : ByteArray), 0⟩ : OpV)) := of_decide_eq_false h40
          refine Xk [(4, .gen []), (5, .gen [])] [] [(58, undef), (56, .bool false), (2, .bool false), (1, vp b1 0)] ak0 ?_
          refine GoR.skip rfl (by kernel_rfl) Xo ?_
          refine Xk [(7, .gen []), (8, .gen []), (9, .gen []), (10, .gen [])] [] [(63, undef), (61, .bool false), (2, .bool false), (1, vp b1 0)] ak0 ?_
          refine GoR.skip rfl (by kernel_rfl) Xo ?_
          refine Xk [(12, .gen []), (13, .gen []), (14, .gen []), (15, .gen [])] [] [(68, undef), (66, .bool false), (2, .bool false)] ak0 ?_
          refine GoR.skip rfl (by kernel_rfl) Xo ?_
          refine Xk [(17, .gen []), (18, .gen [])] [] [(2, .bool false)] ak0 ?_
          refine GoR.done (GoQ.thn (GoC.ret ?_))
          refine X1 (v := .bool false) ?_
          have hr : may o = false := by rw [may, if_neg (ne_true_of_eq_false h9), if_neg (ne_true_of_eq_false h22), if_pos h35, if_neg (ne_true_of_eq_false h40)]
          exact ⟨by first | (rw [hr]; done) | (rw [hr]; rfl), hs39.drop 2⟩
      · have h35' : ¬ ((o.kind : Int) = 4) := ieqF h35
        refine GoC.skip (GoQ.thn (GoC.seq (GoC.seq ?_)))
        refine Xt (.rd 0 (.rd 1 .done)) ?_
        refine Xk [(0, .gen []), (1, .gen [])] [] [(16, .bool ((o.kind : Int) == 2)), (10, .int .u8 o.kind), (3, vp b4 0), (2, .bool false), (1, vp b1 0)] ak0 ?_
        refine GoR.done (GoQ.thn ?_)
        refine Xc (t := (o.kind : Int) == 2) (fun h52 => ?_) (fun h52 => ?_)
        · have h52' : (o.kind : Int) = 2 := ieqT h52
          refine GoC.exit (GoQ.skipC (GoQ.skipC (GoQ.miss (by decide) (GoQ.skipC (GoQ.miss (by decide) (GoQ.skipC (GoQ.hit (GoQ.thn (GoC.seq ?_)))))))))
          refine Xt (.rd 0 (.rd 1 (.rd 2 (.ef 3 .done)))) ?_
          refine Xk [(0, .gen []), (1, .gen [.string o.value]), (2, .gen [])] [(1, [.cell ⟨b1, 2, none⟩ (.string o.value)])] [(25, vp b4 2), (24, .string o.value), (3, vp b4 0), (2, .bool false), (1, vp b1 0)] (ak (okc (hs8.cell 1 rfl (by kernel_rfl)) ok0) ak0) ?_
          refine GoR.store rfl rfl (by kernel_rfl) (b := b4) (off := 2) (v := .string o.value) (by kernel_rfl) (by kernel_rfl) (ti := Tryz.t9) (by kernel_rfl) hs8 0 rfl (by kernel_rfl) (by kernel_rfl) (Nat.le_of_ble_eq_true (by kernel_rfl)) (cs' := #[.int .u8 o.kind, .string o.key, .string o.value, .string (⟨#[]⟩ : ByteArray), .string (⟨#[]⟩ : ByteArray), .int .u64 0]) (L' := (Cel b4 #[.int .u8 o.kind, .string o.key, .string o.value, .string (⟨#[]⟩ : ByteArray), .string (⟨#[]⟩ : ByteArray), .int .u64 0] 44) :: (Cel b1 (OpV.cells o) 44) :: L) (by kernel_rfl) rfl ?_
          intro w53 hs54
          refine ⟨Xo, ?_⟩
          refine GoR.done (GoQ.thn (GoC.exit (GoQ.miss (by decide) (GoQ.skipC (GoQ.miss (by decide) (GoQ.skipC (GoQ.hit (GoQ.thn (GoC.seq ?_)))))))))
          refine Xt (.rd 0 (.rd 1 (.rd 2 (.rd 3 (.rd 4 (.rd 5 (.ef 6 (.rd 7 (.rd 8 (.rd 9 (.rd 10 (.ef 11 (.rd 12 (.rd 13 (.rd 14 (.rd 15 (.ef 16 (.rd 17 (.rd 18 .done))))))))))))))))))) ?_
          refine Xk [(0, .agg (OpV.cells o)), (1, .agg #[.int .u8 o.kind, .string o.key, .string o.value, .string (⟨#[]⟩ : ByteArray), .string (⟨#[]⟩ : ByteArray), .int .u64 0])] [(0, [.prop (Array.size (OpV.cells o) = 6), .cells ⟨b1, 0, none⟩ (OpV.cells o)]), (1, [.prop (Array.size (#[.int .u8 o.kind, .string o.key, .string o.value, .string (⟨#[]⟩ : ByteArray), .string (⟨#[]⟩ : ByteArray), .int .u64 0] : Array Value) = 6), .cells ⟨b4, 0, none⟩ #[.int .u8 o.kind, .string o.key, .string o.value, .string (⟨#[]⟩ : ByteArray), .string (⟨#[]⟩ : ByteArray), .int .u64 0]])] [(54, .agg #[.int .u8 o.kind, .string o.key, .string o.value, .string (⟨#[]⟩ : ByteArray), .string (⟨#[]⟩ : ByteArray), .int .u64 0]), (53, .agg (OpV.cells o)), (2, .bool false), (1, vp b1 0)] (ak (okp (by kernel_rfl) (oka (hs54.cells 1 0 rfl (by kernel_rfl)) ok0)) (ak (okp (by kernel_rfl) (oka (hs54.cells 0 0 rfl (by kernel_rfl)) ok0)) ak0)) ?_
          refine GoR.eqAgg rfl (by kernel_rfl) (b := true) (t := 44) (xs := OpV.cells o) (ys := OpV.cells (⟨o.kind, o.key, o.value, (⟨#[]⟩ : ByteArray), (⟨#[]⟩ : ByteArray), 0⟩ : OpV)) (m := 2) (by kernel_rfl) (by kernel_rfl) (by decide) (by kernel_rfl) (r := decide (o = (⟨o.kind, o.key, o.value, (⟨#[]⟩ : ByteArray), (⟨#[]⟩ : ByteArray), 0⟩ : OpV))) (aggEq  (opEq o (⟨o.kind, o.key, o.value, (⟨#[]⟩ : ByteArray), (⟨#[]⟩ : ByteArray), 0⟩ : OpV))) ?_
          refine Xk [(3, .gen [])] [] [(56, .bool (decide (o = (⟨o.kind, o.key, o.value, (⟨#[]⟩ : ByteArray), (⟨#[]⟩ : ByteArray), 0⟩ : OpV)))), (2, .bool false), (1, vp b1 0)] ak0 ?_
          rcases Bool.eq_false_or_eq_true (decide (o = (⟨o.kind, o.key, o.value, (⟨#[]⟩ : ByteArray), (⟨#[]⟩ : ByteArray), 0⟩ : OpV))) with h55 | h55
          · refine Xs 56 true h55 ?_
            have h55' : o = (⟨o.kind, o.key, o.value, (⟨#[]⟩ : ByteArray), (⟨#[]⟩ : ByteArray), 0⟩ : OpV) := of_decide_eq_true h55
            refine Xk [(4, .gen []), (5, .gen [.string o.key])] [(5, [.cell ⟨b1, 1, none⟩ (.string o.key)])] [(58, .string o.key), (56, .bool true), (2, .bool false), (1, vp b1 0)] (ak (okc (hs54.cell 1 rfl (by kernel_rfl)) ok0) ak0) ?_
            refine Xa (f := 81) (args := #[.string o.key]) Tryz.call81 (keyed_spec o.key  hs54) ?_
            rintro v57 w58 ⟨rfl, hs56⟩
            refine ⟨Xo, ?_⟩
            refine Xk [(7, .gen []), (8, .gen [])] [] [(61, .bool (keyed o.key)), (2, .bool false), (1, vp b1 0)] ak0 ?_
            rcases Bool.eq_false_or_eq_true (keyed o.key) with h59 | h59
            · refine Xs 61 true h59 ?_
              refine Xk [(9, .gen []), (10, .gen [.string o.value])] [(10, [.cell ⟨b1, 2, none⟩ (.string o.value)])] [(63, .string o.value), (61, .bool true), (2, .bool false), (1, vp b1 0)] (ak (okc (hs56.cell 1 rfl (by kernel_rfl)) ok0) ak0) ?_
              refine Xa (f := 82) (args := #[.string o.value]) Tryz.call82 (valued_spec o.value  hs56) ?_
              rintro v61 w62 ⟨rfl, hs60⟩
              refine ⟨Xo, ?_⟩
              refine Xk [(12, .gen []), (13, .gen [])] [] [(66, .bool (valued o.value)), (2, .bool false), (1, vp b1 0)] ak0 ?_
              rcases Bool.eq_false_or_eq_true (valued o.value) with h63 | h63
              · refine Xs 66 true h63 ?_
                refine Xk [(14, .gen []), (15, .gen [.string o.old])] [(15, [.cell ⟨b1, 3, none⟩ (.string o.old)])] [(68, .string o.old), (66, .bool true), (2, .bool false)] (ak (okc (hs60.cell 1 rfl (by kernel_rfl)) ok0) ak0) ?_
                refine Xa (f := 82) (args := #[.string o.old]) Tryz.call82 (valued_spec o.old  hs60) ?_
                rintro v65 w66 ⟨rfl, hs64⟩
                refine ⟨Xo, ?_⟩
                refine Xk [(17, .gen []), (18, .gen [])] [] [(2, .bool (valued o.old))] ak0 ?_
                refine GoR.done (GoQ.thn (GoC.ret ?_))
                refine X1 (v := .bool (valued o.old)) ?_
                have hr : may o = (valued o.old) := by rw [may, if_neg (ne_true_of_eq_false h9), if_neg (ne_true_of_eq_false h22), if_neg (ne_true_of_eq_false h35), if_pos h52, if_pos h55, if_pos h59, if_pos h63]
                exact ⟨by first | (rw [hr]; done) | (rw [hr]; rfl), hs64.drop 2⟩
              · refine Xs 66 false h63 ?_
                refine Xk [(14, .gen []), (15, .gen [])] [] [(68, undef), (66, .bool false), (2, .bool false)] ak0 ?_
                refine GoR.skip rfl (by kernel_rfl) Xo ?_
                refine Xk [(17, .gen []), (18, .gen [])] [] [(2, .bool false)] ak0 ?_
                refine GoR.done (GoQ.thn (GoC.ret ?_))
                refine X1 (v := .bool false) ?_
                have hr : may o = false := by rw [may, if_neg (ne_true_of_eq_false h9), if_neg (ne_true_of_eq_false h22), if_neg (ne_true_of_eq_false h35), if_pos h52, if_pos h55, if_pos h59, if_neg (ne_true_of_eq_false h63)]
                exact ⟨by first | (rw [hr]; done) | (rw [hr]; rfl), hs60.drop 2⟩
            · refine Xs 61 false h59 ?_
              refine Xk [(9, .gen []), (10, .gen [])] [] [(63, undef), (61, .bool false), (2, .bool false), (1, vp b1 0)] ak0 ?_
              refine GoR.skip rfl (by kernel_rfl) Xo ?_
              refine Xk [(12, .gen []), (13, .gen []), (14, .gen []), (15, .gen [])] [] [(68, undef), (66, .bool false), (2, .bool false)] ak0 ?_
              refine GoR.skip rfl (by kernel_rfl) Xo ?_
              refine Xk [(17, .gen []), (18, .gen [])] [] [(2, .bool false)] ak0 ?_
              refine GoR.done (GoQ.thn (GoC.ret ?_))
              refine X1 (v := .bool false) ?_
              have hr : may o = false := by rw [may, if_neg (ne_true_of_eq_false h9), if_neg (ne_true_of_eq_false h22), if_neg (ne_true_of_eq_false h35), if_pos h52, if_pos h55, if_neg (ne_true_of_eq_false h59)]
              exact ⟨by first | (rw [hr]; done) | (rw [hr]; rfl), hs56.drop 2⟩
          · refine Xs 56 false h55 ?_
            have h55' : ¬ (o = (⟨o.kind, o.key, o.value, (⟨#[]⟩ : ByteArray), (⟨#[]⟩ : ByteArray), 0⟩ : OpV)) := of_decide_eq_false h55
            refine Xk [(4, .gen []), (5, .gen [])] [] [(58, undef), (56, .bool false), (2, .bool false), (1, vp b1 0)] ak0 ?_
            refine GoR.skip rfl (by kernel_rfl) Xo ?_
            refine Xk [(7, .gen []), (8, .gen []), (9, .gen []), (10, .gen [])] [] [(63, undef), (61, .bool false), (2, .bool false), (1, vp b1 0)] ak0 ?_
            refine GoR.skip rfl (by kernel_rfl) Xo ?_
            refine Xk [(12, .gen []), (13, .gen []), (14, .gen []), (15, .gen [])] [] [(68, undef), (66, .bool false), (2, .bool false)] ak0 ?_
            refine GoR.skip rfl (by kernel_rfl) Xo ?_
            refine Xk [(17, .gen []), (18, .gen [])] [] [(2, .bool false)] ak0 ?_
            refine GoR.done (GoQ.thn (GoC.ret ?_))
            refine X1 (v := .bool false) ?_
            have hr : may o = false := by rw [may, if_neg (ne_true_of_eq_false h9), if_neg (ne_true_of_eq_false h22), if_neg (ne_true_of_eq_false h35), if_pos h52, if_neg (ne_true_of_eq_false h55)]
            exact ⟨by first | (rw [hr]; done) | (rw [hr]; rfl), hs54.drop 2⟩
        · have h52' : ¬ ((o.kind : Int) = 2) := ieqF h52
          refine GoC.skip (GoQ.thn (GoC.seq ?_))
          refine Xt (.rd 0 (.rd 1 .done)) ?_
          refine Xk [(0, .gen []), (1, .gen [])] [] [(18, .bool ((o.kind : Int) == 5)), (3, vp b4 0), (2, .bool false), (1, vp b1 0)] ak0 ?_
          refine GoR.done (GoQ.thn ?_)
          refine Xc (t := (o.kind : Int) == 5) (fun h67 => ?_) (fun h67 => ?_)
          · have h67' : (o.kind : Int) = 5 := ieqT h67
            refine GoC.exit (GoQ.skipC (GoQ.miss (by decide) (GoQ.skipC (GoQ.miss (by decide) (GoQ.skipC (GoQ.miss (by decide) (GoQ.skipC (GoQ.hit (GoQ.thn (GoC.seq (GoC.seq ?_)))))))))))
            refine GoC.regD [0, 1, 0, 4, 3, 19, 63, 127] (.rd 0 (.rd 1 (.rd 2 (.rd 3 (.rd 4 (.ef 5 (.rd 6 (.ef 7 .done)))))))) (by kernel_rfl) (by kernel_rfl) noPan_body (by kernel_rfl) hs8 ?_
            intro w68 hs69 hw70
            refine Xk [(0, .gen []), (1, .gen [.string o.dest]), (2, .gen []), (3, .gen [.int .u64 o.amount]), (4, .gen [])] [(1, [.cell ⟨b1, 4, none⟩ (.string o.dest)]), (3, [.cell ⟨b1, 5, none⟩ (.int .u64 o.amount)])] [(30, vp b4 4), (29, .int .u64 o.amount), (27, .string o.dest), (3, vp b4 0), (2, .bool false), (1, vp b1 0)] (ak (okc (hs69.cell 1 rfl (by kernel_rfl)) ok0) (ak (okc (hs69.cell 1 rfl (by kernel_rfl)) ok0) ak0)) ?_
            refine GoR.store rfl rfl (by kernel_rfl) (b := b4) (off := 4) (v := .string o.dest) (by kernel_rfl) (by kernel_rfl) (ti := Tryz.t9) (by kernel_rfl) hs69 0 rfl (by kernel_rfl) (by kernel_rfl) (Nat.le_of_ble_eq_true (by kernel_rfl)) (cs' := #[.int .u8 o.kind, .string o.key, .string (⟨#[]⟩ : ByteArray), .string (⟨#[]⟩ : ByteArray), .string o.dest, .int .u64 0]) (L' := (Cel b4 #[.int .u8 o.kind, .string o.key, .string (⟨#[]⟩ : ByteArray), .string (⟨#[]⟩ : ByteArray), .string o.dest, .int .u64 0] 44) :: (Cel b1 (OpV.cells o) 44) :: L) (by kernel_rfl) rfl ?_
            intro w71 hs72
            refine ⟨(opl (n := [.cell ⟨b1, 5, none⟩ (.int .u64 o.amount)]) (by kernel_rfl) (okc (hs72.cell 1 rfl (by kernel_rfl)) ok0)), ?_⟩
            refine Xk [(6, .gen [])] [] [(31, vp b4 5), (29, .int .u64 o.amount), (3, vp b4 0), (2, .bool false), (1, vp b1 0)] ak0 ?_
            refine GoR.store rfl rfl (by kernel_rfl) (b := b4) (off := 5) (v := .int .u64 o.amount) (by kernel_rfl) (by kernel_rfl) (ti := Tryz.t42) (by kernel_rfl) hs72 0 rfl (by kernel_rfl) (by kernel_rfl) (Nat.le_of_ble_eq_true (by kernel_rfl)) (cs' := #[.int .u8 o.kind, .string o.key, .string (⟨#[]⟩ : ByteArray), .string (⟨#[]⟩ : ByteArray), .string o.dest, .int .u64 o.amount]) (L' := (Cel b4 #[.int .u8 o.kind, .string o.key, .string (⟨#[]⟩ : ByteArray), .string (⟨#[]⟩ : ByteArray), .string o.dest, .int .u64 o.amount] 44) :: (Cel b1 (OpV.cells o) 44) :: L) (by kernel_rfl) rfl ?_
            intro w73 hs74
            refine ⟨Xo, ?_⟩
            refine GoR.done (GoQ.thn (GoC.seq ?_))
            refine Xt (.rd 0 (.rd 1 (.ef 2 (.rd 3 (.rd 4 (.rd 5 (.rd 6 (.rd 7 (.rd 8 (.rd 9 (.rd 10 (.rd 11 (.rd 12 (.rd 13 (.rd 14 (.rd 15 (.rd 16 (.rd 17 (.rd 18 (.rd 19 (.rd 20 .done))))))))))))))))))))) ?_
            refine Xk [(0, .gen []), (1, .gen [.string o.dest])] [(1, [.cell ⟨b1, 4, none⟩ (.string o.dest)])] [(33, .string o.dest), (3, vp b4 0), (2, .bool false), (1, vp b1 0)] (ak (okc (hs74.cell 1 rfl (by kernel_rfl)) ok0) ak0) ?_
            refine Xa (f := 81) (args := #[.string o.dest]) Tryz.call81 (keyed_spec o.dest  hs74) ?_
            rintro v76 w77 ⟨rfl, hs75⟩
            refine ⟨Xo, ?_⟩
            refine Xk [(3, .gen []), (4, .gen [])] [] [(36, .bool (!(keyed o.dest))), (3, vp b4 0), (2, .bool false), (1, vp b1 0)] ak0 ?_
            rcases Bool.eq_false_or_eq_true (!(keyed o.dest)) with h78 | h78
            · refine Xs 36 true h78 ?_
              have h78n : (keyed o.dest) = false := notT h78
              refine Xk [(5, .gen []), (6, .gen []), (7, .gen []), (8, .gen []), (9, .gen []), (10, .gen []), (11, .gen []), (12, .gen []), (13, .gen []), (14, .gen []), (15, .gen []), (16, .gen []), (17, .gen []), (18, .gen []), (19, .gen []), (20, .gen [])] [] [(52, .bool true), (3, vp b4 0), (2, .bool false), (1, vp b1 0)] ak0 ?_
              refine GoR.done (GoQ.thn (XT (GoC.seq ?_)))
              refine Xt (.rd 0 .done) ?_
              refine Xk [(0, .gen [])] [] [(2, .bool false), (3, vp b4 0), (1, vp b1 0)] ak0 ?_
              refine GoR.done (GoQ.thn (GoC.ret (GoQ.skipCR (GoQ.blkR (GoQ.skipCR (GoQ.blkR (GoQ.skipCR ?_)))))))
              refine X1 (v := .bool false) ?_
              have hr : may o = false := by rw [may, if_neg (ne_true_of_eq_false h9), if_neg (ne_true_of_eq_false h22), if_neg (ne_true_of_eq_false h35), if_neg (ne_true_of_eq_false h52), if_pos h67, if_pos h78]
              exact ⟨by first | (rw [hr]; done) | (rw [hr]; rfl), hs75.drop 2⟩
            · refine Xs 36 false h78 ?_
              have h78n : (keyed o.dest) = true := notF h78
              refine Xk [(5, .gen []), (6, .gen [.string o.dest]), (7, .gen []), (8, .gen [.string o.key]), (9, .as_ (.bool (decide (o.dest = o.key))) (.gen [])), (10, .gen []), (11, .gen [])] [(6, [.cell ⟨b1, 4, none⟩ (.string o.dest)]), (8, [.cell ⟨b1, 1, none⟩ (.string o.key)]), (9, [.prop (Value.bool (o.dest.toList == o.key.toList) = Value.bool (decide (o.dest = o.key)))])] [(43, .bool (decide (o.dest = o.key))), (3, vp b4 0), (2, .bool false), (1, vp b1 0)] (ak (okc (hs75.cell 1 rfl (by kernel_rfl)) ok0) (ak (okc (hs75.cell 1 rfl (by kernel_rfl)) ok0) (ak (okp (seq _ _) ok0) ak0))) ?_
              rcases Bool.eq_false_or_eq_true (decide (o.dest = o.key)) with h79 | h79
              · refine Xs 43 true h79 ?_
                have h79' : o.dest = o.key := of_decide_eq_true h79
                refine Xk [(12, .gen []), (13, .gen []), (14, .gen []), (15, .gen []), (16, .gen []), (17, .gen []), (18, .gen []), (19, .gen []), (20, .gen [])] [] [(52, .bool true), (3, vp b4 0), (2, .bool false), (1, vp b1 0)] ak0 ?_
                refine GoR.done (GoQ.thn (XT (GoC.seq ?_)))
                refine Xt (.rd 0 .done) ?_
                refine Xk [(0, .gen [])] [] [(2, .bool false), (3, vp b4 0), (1, vp b1 0)] ak0 ?_
                refine GoR.done (GoQ.thn (GoC.ret (GoQ.skipCR (GoQ.blkR (GoQ.skipCR (GoQ.blkR (GoQ.skipCR ?_)))))))
                refine X1 (v := .bool false) ?_
                have hr : may o = false := by rw [may, if_neg (ne_true_of_eq_false h9), if_neg (ne_true_of_eq_false h22), if_neg (ne_true_of_eq_false h35), if_neg (ne_true_of_eq_false h52), if_pos h67, if_neg (ne_true_of_eq_false h78), if_pos h79]
                exact ⟨by first | (rw [hr]; done) | (rw [hr]; rfl), hs75.drop 2⟩
              · refine Xs 43 false h79 ?_
                have h79' : ¬ (o.dest = o.key) := of_decide_eq_false h79
                refine Xk [(12, .gen []), (13, .gen [.int .u64 o.amount]), (14, .gen []), (15, .gen []), (16, .gen [])] [(13, [.cell ⟨b1, 5, none⟩ (.int .u64 o.amount)])] [(48, .bool (decide ((o.amount : Int) < 1))), (3, vp b4 0), (2, .bool false), (1, vp b1 0)] (ak (okc (hs75.cell 1 rfl (by kernel_rfl)) ok0) ak0) ?_
                rcases Bool.eq_false_or_eq_true (decide ((o.amount : Int) < 1)) with h80 | h80
                · refine Xs 48 true h80 ?_
                  have h80' : (o.amount : Int) < 1 := of_decide_eq_true h80
                  refine Xk [(17, .gen []), (18, .gen []), (19, .gen []), (20, .gen [])] [] [(52, .bool true), (3, vp b4 0), (2, .bool false), (1, vp b1 0)] ak0 ?_
                  refine GoR.done (GoQ.thn (XT (GoC.seq ?_)))
                  refine Xt (.rd 0 .done) ?_
                  refine Xk [(0, .gen [])] [] [(2, .bool false), (3, vp b4 0), (1, vp b1 0)] ak0 ?_
                  refine GoR.done (GoQ.thn (GoC.ret (GoQ.skipCR (GoQ.blkR (GoQ.skipCR (GoQ.blkR (GoQ.skipCR ?_)))))))
                  refine X1 (v := .bool false) ?_
                  have hr : may o = false := by rw [may, if_neg (ne_true_of_eq_false h9), if_neg (ne_true_of_eq_false h22), if_neg (ne_true_of_eq_false h35), if_neg (ne_true_of_eq_false h52), if_pos h67, if_neg (ne_true_of_eq_false h78), if_neg (ne_true_of_eq_false h79), if_pos h80]
                  exact ⟨by first | (rw [hr]; done) | (rw [hr]; rfl), hs75.drop 2⟩
                · refine Xs 48 false h80 ?_
                  have h80' : ¬ ((o.amount : Int) < 1) := of_decide_eq_false h80
                  refine Xk [(17, .gen []), (18, .gen [.int .u64 o.amount]), (19, .gen []), (20, .gen [])] [(18, [.cell ⟨b1, 5, none⟩ (.int .u64 o.amount)])] [(52, .bool (decide ((o.amount : Int) > 1125899906842624))), (3, vp b4 0), (2, .bool false), (1, vp b1 0)] (ak (okc (hs75.cell 1 rfl (by kernel_rfl)) ok0) ak0) ?_
                  refine GoR.done (GoQ.thn ?_)
                  refine Xc (t := decide ((o.amount : Int) > 1125899906842624)) (fun h81 => ?_) (fun h81 => ?_)
                  · have h81' : (o.amount : Int) > 1125899906842624 := of_decide_eq_true h81
                    refine GoC.seq ?_
                    refine Xt (.rd 0 .done) ?_
                    refine Xk [(0, .gen [])] [] [(2, .bool false), (3, vp b4 0), (1, vp b1 0)] ak0 ?_
                    refine GoR.done (GoQ.thn (GoC.ret (GoQ.skipCR (GoQ.blkR (GoQ.skipCR (GoQ.blkR (GoQ.skipCR ?_)))))))
                    refine X1 (v := .bool false) ?_
                    have hr : may o = false := by rw [may, if_neg (ne_true_of_eq_false h9), if_neg (ne_true_of_eq_false h22), if_neg (ne_true_of_eq_false h35), if_neg (ne_true_of_eq_false h52), if_pos h67, if_neg (ne_true_of_eq_false h78), if_neg (ne_true_of_eq_false h79), if_neg (ne_true_of_eq_false h80), if_pos h81]
                    exact ⟨by first | (rw [hr]; done) | (rw [hr]; rfl), hs75.drop 2⟩
                  · have h81' : ¬ ((o.amount : Int) > 1125899906842624) := of_decide_eq_false h81
                    refine GoC.skip (GoQ.thn (GoC.exit (GoQ.miss (by decide) (GoQ.skipC (GoQ.hit (GoQ.thn (GoC.seq ?_)))))))
                    refine Xt (.rd 0 (.rd 1 (.rd 2 (.rd 3 (.rd 4 (.rd 5 (.ef 6 (.rd 7 (.rd 8 (.rd 9 (.rd 10 (.ef 11 (.rd 12 (.rd 13 (.rd 14 (.rd 15 (.ef 16 (.rd 17 (.rd 18 .done))))))))))))))))))) ?_
                    refine Xk [(0, .agg (OpV.cells o)), (1, .agg #[.int .u8 o.kind, .string o.key, .string (⟨#[]⟩ : ByteArray), .string (⟨#[]⟩ : ByteArray), .string o.dest, .int .u64 o.amount])] [(0, [.prop (Array.size (OpV.cells o) = 6), .cells ⟨b1, 0, none⟩ (OpV.cells o)]), (1, [.prop (Array.size (#[.int .u8 o.kind, .string o.key, .string (⟨#[]⟩ : ByteArray), .string (⟨#[]⟩ : ByteArray), .string o.dest, .int .u64 o.amount] : Array Value) = 6), .cells ⟨b4, 0, none⟩ #[.int .u8 o.kind, .string o.key, .string (⟨#[]⟩ : ByteArray), .string (⟨#[]⟩ : ByteArray), .string o.dest, .int .u64 o.amount]])] [(54, .agg #[.int .u8 o.kind, .string o.key, .string (⟨#[]⟩ : ByteArray), .string (⟨#[]⟩ : ByteArray), .string o.dest, .int .u64 o.amount]), (53, .agg (OpV.cells o)), (2, .bool false), (1, vp b1 0)] (ak (okp (by kernel_rfl) (oka (hs75.cells 1 0 rfl (by kernel_rfl)) ok0)) (ak (okp (by kernel_rfl) (oka (hs75.cells 0 0 rfl (by kernel_rfl)) ok0)) ak0)) ?_
                    refine GoR.eqAgg rfl (by kernel_rfl) (b := true) (t := 44) (xs := OpV.cells o) (ys := OpV.cells (⟨o.kind, o.key, (⟨#[]⟩ : ByteArray), (⟨#[]⟩ : ByteArray), o.dest, o.amount⟩ : OpV)) (m := 2) (by kernel_rfl) (by kernel_rfl) (by decide) (by kernel_rfl) (r := decide (o = (⟨o.kind, o.key, (⟨#[]⟩ : ByteArray), (⟨#[]⟩ : ByteArray), o.dest, o.amount⟩ : OpV))) (aggEq  (opEq o (⟨o.kind, o.key, (⟨#[]⟩ : ByteArray), (⟨#[]⟩ : ByteArray), o.dest, o.amount⟩ : OpV))) ?_
                    refine Xk [(3, .gen [])] [] [(56, .bool (decide (o = (⟨o.kind, o.key, (⟨#[]⟩ : ByteArray), (⟨#[]⟩ : ByteArray), o.dest, o.amount⟩ : OpV)))), (2, .bool false), (1, vp b1 0)] ak0 ?_
                    rcases Bool.eq_false_or_eq_true (decide (o = (⟨o.kind, o.key, (⟨#[]⟩ : ByteArray), (⟨#[]⟩ : ByteArray), o.dest, o.amount⟩ : OpV))) with h82 | h82
                    · refine Xs 56 true h82 ?_
                      have h82' : o = (⟨o.kind, o.key, (⟨#[]⟩ : ByteArray), (⟨#[]⟩ : ByteArray), o.dest, o.amount⟩ : OpV) := of_decide_eq_true h82
                      refine Xk [(4, .gen []), (5, .gen [.string o.key])] [(5, [.cell ⟨b1, 1, none⟩ (.string o.key)])] [(58, .string o.key), (56, .bool true), (2, .bool false), (1, vp b1 0)] (ak (okc (hs75.cell 1 rfl (by kernel_rfl)) ok0) ak0) ?_
                      refine Xa (f := 81) (args := #[.string o.key]) Tryz.call81 (keyed_spec o.key  hs75) ?_
                      rintro v84 w85 ⟨rfl, hs83⟩
                      refine ⟨Xo, ?_⟩
                      refine Xk [(7, .gen []), (8, .gen [])] [] [(61, .bool (keyed o.key)), (2, .bool false), (1, vp b1 0)] ak0 ?_
                      rcases Bool.eq_false_or_eq_true (keyed o.key) with h86 | h86
                      · refine Xs 61 true h86 ?_
                        refine Xk [(9, .gen []), (10, .gen [.string o.value])] [(10, [.cell ⟨b1, 2, none⟩ (.string o.value)])] [(63, .string o.value), (61, .bool true), (2, .bool false), (1, vp b1 0)] (ak (okc (hs83.cell 1 rfl (by kernel_rfl)) ok0) ak0) ?_
                        refine Xa (f := 82) (args := #[.string o.value]) Tryz.call82 (valued_spec o.value  hs83) ?_
                        rintro v88 w89 ⟨rfl, hs87⟩
                        refine ⟨Xo, ?_⟩
                        refine Xk [(12, .gen []), (13, .gen [])] [] [(66, .bool (valued o.value)), (2, .bool false), (1, vp b1 0)] ak0 ?_
                        rcases Bool.eq_false_or_eq_true (valued o.value) with h90 | h90
                        · refine Xs 66 true h90 ?_
                          refine Xk [(14, .gen []), (15, .gen [.string o.old])] [(15, [.cell ⟨b1, 3, none⟩ (.string o.old)])] [(68, .string o.old), (66, .bool true), (2, .bool false)] (ak (okc (hs87.cell 1 rfl (by kernel_rfl)) ok0) ak0) ?_
                          refine Xa (f := 82) (args := #[.string o.old]) Tryz.call82 (valued_spec o.old  hs87) ?_
                          rintro v92 w93 ⟨rfl, hs91⟩
                          refine ⟨Xo, ?_⟩
                          refine Xk [(17, .gen []), (18, .gen [])] [] [(2, .bool (valued o.old))] ak0 ?_
                          refine GoR.done (GoQ.thn (GoC.ret ?_))
                          refine X1 (v := .bool (valued o.old)) ?_
                          have hr : may o = (valued o.old) := by rw [may, if_neg (ne_true_of_eq_false h9), if_neg (ne_true_of_eq_false h22), if_neg (ne_true_of_eq_false h35), if_neg (ne_true_of_eq_false h52), if_pos h67, if_neg (ne_true_of_eq_false h78), if_neg (ne_true_of_eq_false h79), if_neg (ne_true_of_eq_false h80), if_neg (ne_true_of_eq_false h81), if_pos h82, if_pos h86, if_pos h90]
                          exact ⟨by first | (rw [hr]; done) | (rw [hr]; rfl), hs91.drop 2⟩
                        · refine Xs 66 false h90 ?_
                          refine Xk [(14, .gen []), (15, .gen [])] [] [(68, undef), (66, .bool false), (2, .bool false)] ak0 ?_
                          refine GoR.skip rfl (by kernel_rfl) Xo ?_
                          refine Xk [(17, .gen []), (18, .gen [])] [] [(2, .bool false)] ak0 ?_
                          refine GoR.done (GoQ.thn (GoC.ret ?_))
                          refine X1 (v := .bool false) ?_
                          have hr : may o = false := by rw [may, if_neg (ne_true_of_eq_false h9), if_neg (ne_true_of_eq_false h22), if_neg (ne_true_of_eq_false h35), if_neg (ne_true_of_eq_false h52), if_pos h67, if_neg (ne_true_of_eq_false h78), if_neg (ne_true_of_eq_false h79), if_neg (ne_true_of_eq_false h80), if_neg (ne_true_of_eq_false h81), if_pos h82, if_pos h86, if_neg (ne_true_of_eq_false h90)]
                          exact ⟨by first | (rw [hr]; done) | (rw [hr]; rfl), hs87.drop 2⟩
                      · refine Xs 61 false h86 ?_
                        refine Xk [(9, .gen []), (10, .gen [])] [] [(63, undef), (61, .bool false), (2, .bool false), (1, vp b1 0)] ak0 ?_
                        refine GoR.skip rfl (by kernel_rfl) Xo ?_
                        refine Xk [(12, .gen []), (13, .gen []), (14, .gen []), (15, .gen [])] [] [(68, undef), (66, .bool false), (2, .bool false)] ak0 ?_
                        refine GoR.skip rfl (by kernel_rfl) Xo ?_
                        refine Xk [(17, .gen []), (18, .gen [])] [] [(2, .bool false)] ak0 ?_
                        refine GoR.done (GoQ.thn (GoC.ret ?_))
                        refine X1 (v := .bool false) ?_
                        have hr : may o = false := by rw [may, if_neg (ne_true_of_eq_false h9), if_neg (ne_true_of_eq_false h22), if_neg (ne_true_of_eq_false h35), if_neg (ne_true_of_eq_false h52), if_pos h67, if_neg (ne_true_of_eq_false h78), if_neg (ne_true_of_eq_false h79), if_neg (ne_true_of_eq_false h80), if_neg (ne_true_of_eq_false h81), if_pos h82, if_neg (ne_true_of_eq_false h86)]
                        exact ⟨by first | (rw [hr]; done) | (rw [hr]; rfl), hs83.drop 2⟩
                    · refine Xs 56 false h82 ?_
                      have h82' : ¬ (o = (⟨o.kind, o.key, (⟨#[]⟩ : ByteArray), (⟨#[]⟩ : ByteArray), o.dest, o.amount⟩ : OpV)) := of_decide_eq_false h82
                      refine Xk [(4, .gen []), (5, .gen [])] [] [(58, undef), (56, .bool false), (2, .bool false), (1, vp b1 0)] ak0 ?_
                      refine GoR.skip rfl (by kernel_rfl) Xo ?_
                      refine Xk [(7, .gen []), (8, .gen []), (9, .gen []), (10, .gen [])] [] [(63, undef), (61, .bool false), (2, .bool false), (1, vp b1 0)] ak0 ?_
                      refine GoR.skip rfl (by kernel_rfl) Xo ?_
                      refine Xk [(12, .gen []), (13, .gen []), (14, .gen []), (15, .gen [])] [] [(68, undef), (66, .bool false), (2, .bool false)] ak0 ?_
                      refine GoR.skip rfl (by kernel_rfl) Xo ?_
                      refine Xk [(17, .gen []), (18, .gen [])] [] [(2, .bool false)] ak0 ?_
                      refine GoR.done (GoQ.thn (GoC.ret ?_))
                      refine X1 (v := .bool false) ?_
                      have hr : may o = false := by rw [may, if_neg (ne_true_of_eq_false h9), if_neg (ne_true_of_eq_false h22), if_neg (ne_true_of_eq_false h35), if_neg (ne_true_of_eq_false h52), if_pos h67, if_neg (ne_true_of_eq_false h78), if_neg (ne_true_of_eq_false h79), if_neg (ne_true_of_eq_false h80), if_neg (ne_true_of_eq_false h81), if_neg (ne_true_of_eq_false h82)]
                      exact ⟨by first | (rw [hr]; done) | (rw [hr]; rfl), hs75.drop 2⟩
          · have h67' : ¬ ((o.kind : Int) = 5) := ieqF h67
            refine GoC.skip (GoQ.thn (GoC.exit (GoQ.miss (by decide) (GoQ.skipC (GoQ.miss (by decide) (GoQ.skipC (GoQ.miss (by decide) (GoQ.skipC (GoQ.miss (by decide) (GoQ.skipC (GoQ.hit (GoQ.thn (GoC.seq (GoC.seq ?_))))))))))))))
            refine Xt (.rd 0 .done) ?_
            refine Xk [(0, .gen [])] [] [(2, .bool false), (3, vp b4 0), (1, vp b1 0)] ak0 ?_
            refine GoR.done (GoQ.thn (GoC.ret (GoQ.skipCR (GoQ.blkR (GoQ.skipCR ?_)))))
            refine X1 (v := .bool false) ?_
            have hr : may o = false := by rw [may, if_neg (ne_true_of_eq_false h9), if_neg (ne_true_of_eq_false h22), if_neg (ne_true_of_eq_false h35), if_neg (ne_true_of_eq_false h52), if_neg (ne_true_of_eq_false h67)]
            exact ⟨by first | (rw [hr]; done) | (rw [hr]; rfl), hs8.drop 2⟩
end Go.Proofs.YtbmmknchcdhefaaGreatDoor
