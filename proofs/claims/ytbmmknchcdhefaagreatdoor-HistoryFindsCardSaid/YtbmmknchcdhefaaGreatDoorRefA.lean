/-
  The document's ledger: key, value, May, find, get, set. Conditions: none beside each theorem's own.
-/
import Derived.Test.YtbmmknchcdhefaaGreatDoorSxT
import Derived.Test.YtbmmknchcdhefaaGreatDoorHisE
namespace Go.Proofs.YtbmmknchcdhefaaGreatDoor
open Go.RowKit Go.Sx
set_option linter.unusedVariables false
set_option linter.unusedSimpArgs false
set_option linter.unnecessarySimpa false
set_option maxRecDepth 100000
def rkey (s : ByteArray) : Bool :=
  ((decide (((s.size : Nat) : Int) ≥ 1)) && (decide (((s.size : Nat) : Int) ≤ 32)))
theorem rkey_spec {w0 w : World} {L : List Asn} (s : ByteArray) (hs : St w0 L w) : Calls Tryz.prog 77 #[.string s] w (Ret fun rv w' => rv = .bool (rkey s) ∧ St w0 L w') := by
  refine enter (args := [.string s]) Tryz.func77 rfl Tryz.ntmps77 (Nat.le_of_ble_eq_true (by kernel_rfl)) ?_
  refine GoC.slots (S' := [(0, .string s)]) rfl ?_
  refine GoC.seq ?_
  refine Xt (.rd 0 .done) ?_
  refine Xk [(0, .gen [])] [] [(2, .bool false), (0, .string s)] ak0 ?_
  refine GoR.done (GoQ.thn (GoC.seq ?_))
  refine GoC.join (T := Unit) (E := fun _ => [(2, .bool ((decide (((s.size : Nat) : Int) ≥ 1)) && (decide (((s.size : Nat) : Int) ≤ 32))))]) (F := fun _ w => St w0 (L) w) ?_ ?_
  · refine Xt (.rd 0 (.rd 1 (.rd 2 (.rd 3 (.rd 4 (.rd 5 (.rd 6 (.rd 7 (.rd 8 .done))))))))) ?_
    refine Xk [(0, .gen []), (1, .gen []), (2, .gen []), (3, .gen [])] [] [(6, .bool (decide (((s.size : Nat) : Int) ≥ 1))), (2, .bool false), (0, .string s)] ak0 ?_
    rcases Bool.eq_false_or_eq_true (decide (((s.size : Nat) : Int) ≥ 1)) with h1 | h1
    · refine Xs 6 true h1 ?_
      have h1' : ((s.size : Nat) : Int) ≥ 1 := of_decide_eq_true h1
      refine Xk [(4, .gen []), (5, .gen []), (6, .gen []), (7, .gen []), (8, .gen [])] [] [(2, .bool (decide (((s.size : Nat) : Int) ≤ 32)))] ak0 ?_
      refine GoR.done ?_
      refine GoQ.pick [2] (S' := [(2, .bool (decide (((s.size : Nat) : Int) ≤ 32)))]) (by kernel_rfl) ?_
      exact GoQ.meet1 () (by first | rfl | (simp only [h1, Bool.not_true, Bool.not_false, Bool.true_or, Bool.false_or, Bool.true_and, Bool.false_and, Bool.or_true, Bool.or_false, Bool.and_true, Bool.and_false]; done) | (simp [h1]; done)) hs
    · refine Xs 6 false h1 ?_
      have h1' : ¬ (((s.size : Nat) : Int) ≥ 1) := of_decide_eq_false h1
      refine Xk [(4, .gen []), (5, .gen []), (6, .gen []), (7, .gen []), (8, .gen [])] [] [(2, .bool false)] ak0 ?_
      refine GoR.done ?_
      refine GoQ.pick [2] (S' := [(2, .bool false)]) (by kernel_rfl) ?_
      exact GoQ.meet1 () (by first | rfl | (simp only [h1, Bool.not_true, Bool.not_false, Bool.true_or, Bool.false_or, Bool.true_and, Bool.false_and, Bool.or_true, Bool.or_false, Bool.and_true, Bool.and_false]; done) | (simp [h1]; done)) hs
  intro _ w2 hs3
  refine GoQ.thn (GoC.ret ?_)
  refine X1 (v := .bool ((decide (((s.size : Nat) : Int) ≥ 1)) && (decide (((s.size : Nat) : Int) ≤ 32)))) ?_
  have hr : rkey s = ((decide (((s.size : Nat) : Int) ≥ 1)) && (decide (((s.size : Nat) : Int) ≤ 32))) := by rw [rkey]
  exact ⟨by first | (rw [hr]; done) | (rw [hr]; rfl), hs3.drop 0⟩
def rvalue (s : ByteArray) : Bool :=
  (decide (((s.size : Nat) : Int) ≤ 128))
theorem rvalue_spec {w0 w : World} {L : List Asn} (s : ByteArray) (hs : St w0 L w) : Calls Tryz.prog 78 #[.string s] w (Ret fun rv w' => rv = .bool (rvalue s) ∧ St w0 L w') := by
  refine enter (args := [.string s]) Tryz.func78 rfl Tryz.ntmps78 (Nat.le_of_ble_eq_true (by kernel_rfl)) ?_
  refine GoC.slots (S' := [(0, .string s)]) rfl ?_
  refine GoC.seq ?_
  refine Xt (.rd 0 .done) ?_
  refine Xk [(0, .gen [])] [] [(2, .bool false), (0, .string s)] ak0 ?_
  refine GoR.done (GoQ.thn (GoC.seq ?_))
  refine Xt (.rd 0 (.rd 1 (.rd 2 (.rd 3 .done)))) ?_
  refine Xk [(0, .gen []), (1, .gen []), (2, .gen []), (3, .gen [])] [] [(2, .bool (decide (((s.size : Nat) : Int) ≤ 128)))] ak0 ?_
  refine GoR.done (GoQ.thn (GoC.ret ?_))
  refine X1 (v := .bool (decide (((s.size : Nat) : Int) ≤ 128))) ?_
  have hr : rvalue s = (decide (((s.size : Nat) : Int) ≤ 128)) := by rw [rvalue]
  exact ⟨by first | (rw [hr]; done) | (rw [hr]; rfl), hs.drop 0⟩
def rmay (o : OpV) : Bool :=
  if (!(rkey o.key)) = true then
    false
  else
    if ((o.kind : Int) == 1) = true then
      (decide (o = (⟨o.kind, o.key, (⟨#[]⟩ : ByteArray), (⟨#[]⟩ : ByteArray), (⟨#[]⟩ : ByteArray), 0⟩ : OpV)))
    else
      if ((o.kind : Int) == 3) = true then
        (decide (o = (⟨o.kind, o.key, (⟨#[]⟩ : ByteArray), (⟨#[]⟩ : ByteArray), (⟨#[]⟩ : ByteArray), 0⟩ : OpV)))
      else
        if ((o.kind : Int) == 2) = true then
          if (decide (o = (⟨o.kind, o.key, o.value, (⟨#[]⟩ : ByteArray), (⟨#[]⟩ : ByteArray), 0⟩ : OpV))) = true then
            (rvalue o.value)
          else
            false
        else
          if ((o.kind : Int) == 4) = true then
            if (decide (o = (⟨o.kind, o.key, o.value, o.old, (⟨#[]⟩ : ByteArray), 0⟩ : OpV))) = true then
              if (rvalue o.value) = true then
                (rvalue o.old)
              else
                false
            else
              false
          else
            if ((o.kind : Int) == 5) = true then
              if (decide (o = (⟨o.kind, o.key, (⟨#[]⟩ : ByteArray), (⟨#[]⟩ : ByteArray), o.dest, o.amount⟩ : OpV))) = true then
                if (rkey o.dest) = true then
                  if (!(decide (o.dest = o.key))) = true then
                    if (decide ((o.amount : Int) ≥ 1)) = true then
                      (decide ((o.amount : Int) ≤ 1125899906842624))
                    else
                      false
                  else
                    false
                else
                  false
              else
                false
            else
              false
theorem rmay_spec {w0 w : World} {L : List Asn} (o : OpV) (hs : St w0 L w) : Calls Tryz.prog 69 #[.agg (OpV.cells o)] w (Ret fun rv w' => rv = .bool (rmay o) ∧ St w0 L w') := by
  refine enter (args := [.agg (OpV.cells o)]) Tryz.func69 rfl Tryz.ntmps69 (Nat.le_of_ble_eq_true (by kernel_rfl)) ?_
  refine GoC.slots (S' := [(0, .agg (OpV.cells o))]) rfl ?_
  refine GoC.seq ?_
  refine Xt (.ef 0 (.rd 1 .done)) ?_
  refine GoR.box rfl rfl (by kernel_rfl) (v := .agg (OpV.cells o)) (by kernel_rfl) hs (cs := OpV.cells o) (by kernel_rfl) ?_
  intro b1 w2 hs3
  refine ⟨Xo, ?_⟩
  refine Xk [(1, .gen [])] [] [(2, .bool false), (1, vp b1 0)] ak0 ?_
  refine GoR.done (GoQ.thn (GoC.seq ?_))
  refine Xt (.rd 0 (.rd 1 (.rd 2 (.rd 3 (.rd 4 (.ef 5 (.ef 6 .done))))))) ?_
  refine Xk [(0, .gen []), (1, .gen [.int .u8 o.kind]), (2, .gen []), (3, .gen [.string o.key]), (4, .gen [])] [(1, [.cell ⟨b1, 0, none⟩ (.int .u8 o.kind)]), (3, [.cell ⟨b1, 1, none⟩ (.string o.key)])] [(8, .agg #[.int .u8 o.kind, .string o.key, .string (⟨#[]⟩ : ByteArray), .string (⟨#[]⟩ : ByteArray), .string (⟨#[]⟩ : ByteArray), .int .u64 0]), (2, .bool false), (1, vp b1 0)] (ak (okc (hs3.cell 0 rfl (by kernel_rfl)) ok0) (ak (okc (hs3.cell 0 rfl (by kernel_rfl)) ok0) ak0)) ?_
  refine GoR.alloc rfl rfl (by kernel_rfl) (z := .agg #[.int .u8 0, .string (⟨#[]⟩ : ByteArray), .string (⟨#[]⟩ : ByteArray), .string (⟨#[]⟩ : ByteArray), .string (⟨#[]⟩ : ByteArray), .int .u64 0]) (by kernel_rfl) hs3 (cs := #[.int .u8 0, .string (⟨#[]⟩ : ByteArray), .string (⟨#[]⟩ : ByteArray), .string (⟨#[]⟩ : ByteArray), .string (⟨#[]⟩ : ByteArray), .int .u64 0]) (by kernel_rfl) ?_
  intro b4 w5 hs6
  refine ⟨Xo, ?_⟩
  refine GoR.store rfl rfl (by kernel_rfl) (b := b4) (off := 0) (v := .agg #[.int .u8 o.kind, .string o.key, .string (⟨#[]⟩ : ByteArray), .string (⟨#[]⟩ : ByteArray), .string (⟨#[]⟩ : ByteArray), .int .u64 0]) (by kernel_rfl) (by kernel_rfl) (ti := Tryz.t44) (by kernel_rfl) hs6 0 rfl (by kernel_rfl) (by kernel_rfl) (Nat.le_of_ble_eq_true (by kernel_rfl)) (cs' := #[.int .u8 o.kind, .string o.key, .string (⟨#[]⟩ : ByteArray), .string (⟨#[]⟩ : ByteArray), .string (⟨#[]⟩ : ByteArray), .int .u64 0]) (L' := (Cel b4 #[.int .u8 o.kind, .string o.key, .string (⟨#[]⟩ : ByteArray), .string (⟨#[]⟩ : ByteArray), .string (⟨#[]⟩ : ByteArray), .int .u64 0] 44) :: (Cel b1 (OpV.cells o) 44) :: L) (by kernel_rfl) rfl ?_
  intro w7 hs8
  refine ⟨Xo, ?_⟩
  refine GoR.done (GoQ.thn (GoC.seq (GoC.seq ?_)))
  refine Xt (.rd 0 (.rd 1 (.ef 2 (.rd 3 .done)))) ?_
  refine Xk [(0, .gen []), (1, .gen [.string o.key])] [(1, [.cell ⟨b1, 1, none⟩ (.string o.key)])] [(10, .string o.key), (3, vp b4 0), (2, .bool false), (1, vp b1 0)] (ak (okc (hs8.cell 1 rfl (by kernel_rfl)) ok0) ak0) ?_
  refine Xa (f := 77) (args := #[.string o.key]) Tryz.call77 (rkey_spec o.key  hs8) ?_
  rintro v10 w11 ⟨rfl, hs9⟩
  refine ⟨Xo, ?_⟩
  refine Xk [(3, .gen [])] [] [(12, .bool (!(rkey o.key))), (3, vp b4 0), (2, .bool false), (1, vp b1 0)] ak0 ?_
  refine GoR.done (GoQ.thn ?_)
  refine Xc (t := !(rkey o.key)) (fun h12 => ?_) (fun h12 => ?_)
  · have h12n : (rkey o.key) = false := notT h12
    refine GoC.seq ?_
    refine Xt (.rd 0 .done) ?_
    refine Xk [(0, .gen [])] [] [(2, .bool false), (3, vp b4 0), (1, vp b1 0)] ak0 ?_
    refine GoR.done (GoQ.thn (GoC.ret (GoQ.skipCR ?_)))
    refine X1 (v := .bool false) ?_
    have hr : rmay o = false := by rw [rmay, if_pos h12]
    exact ⟨by first | (rw [hr]; done) | (rw [hr]; rfl), hs9.drop 2⟩
  · have h12n : (rkey o.key) = true := notF h12
    refine GoC.skip (GoQ.thn (GoC.seq (GoC.seq ?_)))
    refine Xt (.rd 0 (.rd 1 .done)) ?_
    refine Xk [(0, .gen []), (1, .gen [.int .u8 o.kind])] [(1, [.cell ⟨b1, 0, none⟩ (.int .u8 o.kind)])] [(14, .int .u8 o.kind), (3, vp b4 0), (2, .bool false), (1, vp b1 0)] (ak (okc (hs9.cell 1 rfl (by kernel_rfl)) ok0) ak0) ?_
    refine GoR.done (GoQ.thn (GoC.block (GoC.seq (GoC.seq ?_))))
    refine Xt (.rd 0 (.rd 1 .done)) ?_
    refine Xk [(0, .gen []), (1, .gen [])] [] [(15, .bool ((o.kind : Int) == 1)), (14, .int .u8 o.kind), (3, vp b4 0), (2, .bool false), (1, vp b1 0)] ak0 ?_
    refine GoR.done (GoQ.thn ?_)
    refine Xc (t := (o.kind : Int) == 1) (fun h13 => ?_) (fun h13 => ?_)
    · have h13' : (o.kind : Int) = 1 := ieqT h13
      refine GoC.skip (GoQ.thn ?_)
      refine Xc (t := (o.kind : Int) == 1) (fun _ => ?_) (fun hc => absurd (h13.symm.trans hc) (by decide))
      refine GoC.seq ?_
      refine Xt (.rd 0 (.rd 1 (.rd 2 (.rd 3 .done)))) ?_
      refine Xk [(0, .agg (OpV.cells o)), (1, .agg #[.int .u8 o.kind, .string o.key, .string (⟨#[]⟩ : ByteArray), .string (⟨#[]⟩ : ByteArray), .string (⟨#[]⟩ : ByteArray), .int .u64 0])] [(0, [.prop (Array.size (OpV.cells o) = 6), .cells ⟨b1, 0, none⟩ (OpV.cells o)]), (1, [.prop (Array.size (#[.int .u8 o.kind, .string o.key, .string (⟨#[]⟩ : ByteArray), .string (⟨#[]⟩ : ByteArray), .string (⟨#[]⟩ : ByteArray), .int .u64 0] : Array Value) = 6), .cells ⟨b4, 0, none⟩ #[.int .u8 o.kind, .string o.key, .string (⟨#[]⟩ : ByteArray), .string (⟨#[]⟩ : ByteArray), .string (⟨#[]⟩ : ByteArray), .int .u64 0]])] [(19, .agg #[.int .u8 o.kind, .string o.key, .string (⟨#[]⟩ : ByteArray), .string (⟨#[]⟩ : ByteArray), .string (⟨#[]⟩ : ByteArray), .int .u64 0]), (18, .agg (OpV.cells o)), (2, .bool false)] (ak (okp (by kernel_rfl) (oka (hs9.cells 1 0 rfl (by kernel_rfl)) ok0)) (ak (okp (by kernel_rfl) (oka (hs9.cells 0 0 rfl (by kernel_rfl)) ok0)) ak0)) ?_
      refine GoR.eqAgg rfl (by kernel_rfl) (b := true) (t := 44) (xs := OpV.cells o) (ys := OpV.cells (⟨o.kind, o.key, (⟨#[]⟩ : ByteArray), (⟨#[]⟩ : ByteArray), (⟨#[]⟩ : ByteArray), 0⟩ : OpV)) (m := 2) (by kernel_rfl) (by kernel_rfl) (by decide) (by kernel_rfl) (r := decide (o = (⟨o.kind, o.key, (⟨#[]⟩ : ByteArray), (⟨#[]⟩ : ByteArray), (⟨#[]⟩ : ByteArray), 0⟩ : OpV))) (aggEq  (opEq o (⟨o.kind, o.key, (⟨#[]⟩ : ByteArray), (⟨#[]⟩ : ByteArray), (⟨#[]⟩ : ByteArray), 0⟩ : OpV))) ?_
      refine Xk [(3, .gen [])] [] [(2, .bool (decide (o = (⟨o.kind, o.key, (⟨#[]⟩ : ByteArray), (⟨#[]⟩ : ByteArray), (⟨#[]⟩ : ByteArray), 0⟩ : OpV))))] ak0 ?_
      refine GoR.done (GoQ.thn (GoC.ret (GoQ.blkR (GoQ.skipCR ?_))))
      refine X1 (v := .bool (decide (o = (⟨o.kind, o.key, (⟨#[]⟩ : ByteArray), (⟨#[]⟩ : ByteArray), (⟨#[]⟩ : ByteArray), 0⟩ : OpV)))) ?_
      have hr : rmay o = (decide (o = (⟨o.kind, o.key, (⟨#[]⟩ : ByteArray), (⟨#[]⟩ : ByteArray), (⟨#[]⟩ : ByteArray), 0⟩ : OpV))) := by rw [rmay, if_neg (ne_true_of_eq_false h12), if_pos h13]
      exact ⟨by first | (rw [hr]; done) | (rw [hr]; rfl), hs9.drop 2⟩
    · have h13' : ¬ ((o.kind : Int) = 1) := ieqF h13
      refine Xt (.rd 0 (.rd 1 .done)) ?_
      refine Xk [(0, .gen []), (1, .gen [])] [] [(15, .bool ((o.kind : Int) == 3)), (14, .int .u8 o.kind), (3, vp b4 0), (2, .bool false), (1, vp b1 0)] ak0 ?_
      refine GoR.done (GoQ.thn ?_)
      refine Xc (t := (o.kind : Int) == 3) (fun h14 => ?_) (fun h14 => ?_)
      · have h14' : (o.kind : Int) = 3 := ieqT h14
        refine GoC.seq ?_
        refine Xt (.rd 0 (.rd 1 (.rd 2 (.rd 3 .done)))) ?_
        refine Xk [(0, .agg (OpV.cells o)), (1, .agg #[.int .u8 o.kind, .string o.key, .string (⟨#[]⟩ : ByteArray), .string (⟨#[]⟩ : ByteArray), .string (⟨#[]⟩ : ByteArray), .int .u64 0])] [(0, [.prop (Array.size (OpV.cells o) = 6), .cells ⟨b1, 0, none⟩ (OpV.cells o)]), (1, [.prop (Array.size (#[.int .u8 o.kind, .string o.key, .string (⟨#[]⟩ : ByteArray), .string (⟨#[]⟩ : ByteArray), .string (⟨#[]⟩ : ByteArray), .int .u64 0] : Array Value) = 6), .cells ⟨b4, 0, none⟩ #[.int .u8 o.kind, .string o.key, .string (⟨#[]⟩ : ByteArray), .string (⟨#[]⟩ : ByteArray), .string (⟨#[]⟩ : ByteArray), .int .u64 0]])] [(19, .agg #[.int .u8 o.kind, .string o.key, .string (⟨#[]⟩ : ByteArray), .string (⟨#[]⟩ : ByteArray), .string (⟨#[]⟩ : ByteArray), .int .u64 0]), (18, .agg (OpV.cells o)), (2, .bool false)] (ak (okp (by kernel_rfl) (oka (hs9.cells 1 0 rfl (by kernel_rfl)) ok0)) (ak (okp (by kernel_rfl) (oka (hs9.cells 0 0 rfl (by kernel_rfl)) ok0)) ak0)) ?_
        refine GoR.eqAgg rfl (by kernel_rfl) (b := true) (t := 44) (xs := OpV.cells o) (ys := OpV.cells (⟨o.kind, o.key, (⟨#[]⟩ : ByteArray), (⟨#[]⟩ : ByteArray), (⟨#[]⟩ : ByteArray), 0⟩ : OpV)) (m := 2) (by kernel_rfl) (by kernel_rfl) (by decide) (by kernel_rfl) (r := decide (o = (⟨o.kind, o.key, (⟨#[]⟩ : ByteArray), (⟨#[]⟩ : ByteArray), (⟨#[]⟩ : ByteArray), 0⟩ : OpV))) (aggEq  (opEq o (⟨o.kind, o.key, (⟨#[]⟩ : ByteArray), (⟨#[]⟩ : ByteArray), (⟨#[]⟩ : ByteArray), 0⟩ : OpV))) ?_
        refine Xk [(3, .gen [])] [] [(2, .bool (decide (o = (⟨o.kind, o.key, (⟨#[]⟩ : ByteArray), (⟨#[]⟩ : ByteArray), (⟨#[]⟩ : ByteArray), 0⟩ : OpV))))] ak0 ?_
        refine GoR.done (GoQ.thn (GoC.ret (GoQ.blkR (GoQ.skipCR ?_))))
        refine X1 (v := .bool (decide (o = (⟨o.kind, o.key, (⟨#[]⟩ : ByteArray), (⟨#[]⟩ : ByteArray), (⟨#[]⟩ : ByteArray), 0⟩ : OpV)))) ?_
        have hr : rmay o = (decide (o = (⟨o.kind, o.key, (⟨#[]⟩ : ByteArray), (⟨#[]⟩ : ByteArray), (⟨#[]⟩ : ByteArray), 0⟩ : OpV))) := by rw [rmay, if_neg (ne_true_of_eq_false h12), if_neg (ne_true_of_eq_false h13), if_pos h14]
        exact ⟨by first | (rw [hr]; done) | (rw [hr]; rfl), hs9.drop 2⟩
      · have h14' : ¬ ((o.kind : Int) = 3) := ieqF h14
        refine GoC.seq ?_
        refine Xt (.rd 0 (.rd 1 .done)) ?_
        refine Xk [(0, .gen []), (1, .gen [])] [] [(21, .bool ((o.kind : Int) == 2)), (14, .int .u8 o.kind), (3, vp b4 0), (2, .bool false), (1, vp b1 0)] ak0 ?_
        refine GoR.done (GoQ.thn ?_)
        refine Xc (t := (o.kind : Int) == 2) (fun h15 => ?_) (fun h15 => ?_)
        · have h15' : (o.kind : Int) = 2 := ieqT h15
          refine GoC.seq ?_
          refine Xt (.rd 0 (.rd 1 (.rd 2 (.ef 3 .done)))) ?_
          refine Xk [(0, .gen []), (1, .gen [.string o.value]), (2, .gen [])] [(1, [.cell ⟨b1, 2, none⟩ (.string o.value)])] [(25, vp b4 2), (24, .string o.value), (3, vp b4 0), (2, .bool false), (1, vp b1 0)] (ak (okc (hs9.cell 1 rfl (by kernel_rfl)) ok0) ak0) ?_
          refine GoR.store rfl rfl (by kernel_rfl) (b := b4) (off := 2) (v := .string o.value) (by kernel_rfl) (by kernel_rfl) (ti := Tryz.t9) (by kernel_rfl) hs9 0 rfl (by kernel_rfl) (by kernel_rfl) (Nat.le_of_ble_eq_true (by kernel_rfl)) (cs' := #[.int .u8 o.kind, .string o.key, .string o.value, .string (⟨#[]⟩ : ByteArray), .string (⟨#[]⟩ : ByteArray), .int .u64 0]) (L' := (Cel b4 #[.int .u8 o.kind, .string o.key, .string o.value, .string (⟨#[]⟩ : ByteArray), .string (⟨#[]⟩ : ByteArray), .int .u64 0] 44) :: (Cel b1 (OpV.cells o) 44) :: L) (by kernel_rfl) rfl ?_
          intro w16 hs17
          refine ⟨Xo, ?_⟩
          refine GoR.done (GoQ.thn (GoC.seq ?_))
          refine Xt (.rd 0 (.rd 1 (.rd 2 (.rd 3 (.rd 4 (.rd 5 (.ef 6 (.rd 7 (.rd 8 .done))))))))) ?_
          refine Xk [(0, .agg (OpV.cells o)), (1, .agg #[.int .u8 o.kind, .string o.key, .string o.value, .string (⟨#[]⟩ : ByteArray), .string (⟨#[]⟩ : ByteArray), .int .u64 0])] [(0, [.prop (Array.size (OpV.cells o) = 6), .cells ⟨b1, 0, none⟩ (OpV.cells o)]), (1, [.prop (Array.size (#[.int .u8 o.kind, .string o.key, .string o.value, .string (⟨#[]⟩ : ByteArray), .string (⟨#[]⟩ : ByteArray), .int .u64 0] : Array Value) = 6), .cells ⟨b4, 0, none⟩ #[.int .u8 o.kind, .string o.key, .string o.value, .string (⟨#[]⟩ : ByteArray), .string (⟨#[]⟩ : ByteArray), .int .u64 0]])] [(27, .agg #[.int .u8 o.kind, .string o.key, .string o.value, .string (⟨#[]⟩ : ByteArray), .string (⟨#[]⟩ : ByteArray), .int .u64 0]), (26, .agg (OpV.cells o)), (2, .bool false), (1, vp b1 0)] (ak (okp (by kernel_rfl) (oka (hs17.cells 1 0 rfl (by kernel_rfl)) ok0)) (ak (okp (by kernel_rfl) (oka (hs17.cells 0 0 rfl (by kernel_rfl)) ok0)) ak0)) ?_
          refine GoR.eqAgg rfl (by kernel_rfl) (b := true) (t := 44) (xs := OpV.cells o) (ys := OpV.cells (⟨o.kind, o.key, o.value, (⟨#[]⟩ : ByteArray), (⟨#[]⟩ : ByteArray), 0⟩ : OpV)) (m := 2) (by kernel_rfl) (by kernel_rfl) (by decide) (by kernel_rfl) (r := decide (o = (⟨o.kind, o.key, o.value, (⟨#[]⟩ : ByteArray), (⟨#[]⟩ : ByteArray), 0⟩ : OpV))) (aggEq  (opEq o (⟨o.kind, o.key, o.value, (⟨#[]⟩ : ByteArray), (⟨#[]⟩ : ByteArray), 0⟩ : OpV))) ?_
          refine Xk [(3, .gen [])] [] [(29, .bool (decide (o = (⟨o.kind, o.key, o.value, (⟨#[]⟩ : ByteArray), (⟨#[]⟩ : ByteArray), 0⟩ : OpV)))), (2, .bool false), (1, vp b1 0)] ak0 ?_
          rcases Bool.eq_false_or_eq_true (decide (o = (⟨o.kind, o.key, o.value, (⟨#[]⟩ : ByteArray), (⟨#[]⟩ : ByteArray), 0⟩ : OpV))) with h18 | h18
          · refine Xs 29 true h18 ?_
            have h18' : o = (⟨o.kind, o.key, o.value, (⟨#[]⟩ : ByteArray), (⟨#[]⟩ : ByteArray), 0⟩ : OpV) := of_decide_eq_true h18
            refine Xk [(4, .gen []), (5, .gen [.string o.value])] [(5, [.cell ⟨b1, 2, none⟩ (.string o.value)])] [(31, .string o.value), (29, .bool true), (2, .bool false)] (ak (okc (hs17.cell 1 rfl (by kernel_rfl)) ok0) ak0) ?_
            refine Xa (f := 78) (args := #[.string o.value]) Tryz.call78 (rvalue_spec o.value  hs17) ?_
            rintro v20 w21 ⟨rfl, hs19⟩
            refine ⟨Xo, ?_⟩
            refine Xk [(7, .gen []), (8, .gen [])] [] [(2, .bool (rvalue o.value))] ak0 ?_
            refine GoR.done (GoQ.thn (GoC.ret (GoQ.blkR (GoQ.skipCR ?_))))
            refine X1 (v := .bool (rvalue o.value)) ?_
            have hr : rmay o = (rvalue o.value) := by rw [rmay, if_neg (ne_true_of_eq_false h12), if_neg (ne_true_of_eq_false h13), if_neg (ne_true_of_eq_false h14), if_pos h15, if_pos h18]
            exact ⟨by first | (rw [hr]; done) | (rw [hr]; rfl), hs19.drop 2⟩
          · refine Xs 29 false h18 ?_
            have h18' : ¬ (o = (⟨o.kind, o.key, o.value, (⟨#[]⟩ : ByteArray), (⟨#[]⟩ : ByteArray), 0⟩ : OpV)) := of_decide_eq_false h18
            refine Xk [(4, .gen []), (5, .gen [])] [] [(31, undef), (29, .bool false), (2, .bool false)] ak0 ?_
            refine GoR.skip rfl (by kernel_rfl) Xo ?_
            refine Xk [(7, .gen []), (8, .gen [])] [] [(2, .bool false)] ak0 ?_
            refine GoR.done (GoQ.thn (GoC.ret (GoQ.blkR (GoQ.skipCR ?_))))
            refine X1 (v := .bool false) ?_
            have hr : rmay o = false := by rw [rmay, if_neg (ne_true_of_eq_false h12), if_neg (ne_true_of_eq_false h13), if_neg (ne_true_of_eq_false h14), if_pos h15, if_neg (ne_true_of_eq_false h18)]
            exact ⟨by first | (rw [hr]; done) | (rw [hr]; rfl), hs17.drop 2⟩
        · have h15' : ¬ ((o.kind : Int) = 2) := ieqF h15
          refine GoC.seq ?_
          refine Xt (.rd 0 (.rd 1 .done)) ?_
          refine Xk [(0, .gen []), (1, .gen [])] [] [(34, .bool ((o.kind : Int) == 4)), (14, .int .u8 o.kind), (3, vp b4 0), (2, .bool false), (1, vp b1 0)] ak0 ?_
          refine GoR.done (GoQ.thn ?_)
          refine Xc (t := (o.kind : Int) == 4) (fun h22 => ?_) (fun h22 => ?_)
          · have h22' : (o.kind : Int) = 4 := ieqT h22
            refine GoC.seq ?_
            refine Xt (.rd 0 (.rd 1 (.rd 2 (.ef 3 .done)))) ?_
            refine Xk [(0, .gen []), (1, .gen [.string o.value]), (2, .gen [])] [(1, [.cell ⟨b1, 2, none⟩ (.string o.value)])] [(38, vp b4 2), (37, .string o.value), (3, vp b4 0), (2, .bool false), (1, vp b1 0)] (ak (okc (hs9.cell 1 rfl (by kernel_rfl)) ok0) ak0) ?_
            refine GoR.store rfl rfl (by kernel_rfl) (b := b4) (off := 2) (v := .string o.value) (by kernel_rfl) (by kernel_rfl) (ti := Tryz.t9) (by kernel_rfl) hs9 0 rfl (by kernel_rfl) (by kernel_rfl) (Nat.le_of_ble_eq_true (by kernel_rfl)) (cs' := #[.int .u8 o.kind, .string o.key, .string o.value, .string (⟨#[]⟩ : ByteArray), .string (⟨#[]⟩ : ByteArray), .int .u64 0]) (L' := (Cel b4 #[.int .u8 o.kind, .string o.key, .string o.value, .string (⟨#[]⟩ : ByteArray), .string (⟨#[]⟩ : ByteArray), .int .u64 0] 44) :: (Cel b1 (OpV.cells o) 44) :: L) (by kernel_rfl) rfl ?_
            intro w23 hs24
            refine ⟨Xo, ?_⟩
            refine GoR.done (GoQ.thn (GoC.seq ?_))
            refine Xt (.rd 0 (.rd 1 (.rd 2 (.ef 3 .done)))) ?_
            refine Xk [(0, .gen []), (1, .gen [.string o.old]), (2, .gen [])] [(1, [.cell ⟨b1, 3, none⟩ (.string o.old)])] [(41, vp b4 3), (40, .string o.old), (3, vp b4 0), (2, .bool false), (1, vp b1 0)] (ak (okc (hs24.cell 1 rfl (by kernel_rfl)) ok0) ak0) ?_
            refine GoR.store rfl rfl (by kernel_rfl) (b := b4) (off := 3) (v := .string o.old) (by kernel_rfl) (by kernel_rfl) (ti := Tryz.t9) (by kernel_rfl) hs24 0 rfl (by kernel_rfl) (by kernel_rfl) (Nat.le_of_ble_eq_true (by kernel_rfl)) (cs' := #[.int .u8 o.kind, .string o.key, .string o.value, .string o.old, .string (⟨#[]⟩ : ByteArray), .int .u64 0]) (L' := (Cel b4 #[.int .u8 o.kind, .string o.key, .string o.value, .string o.old, .string (⟨#[]⟩ : ByteArray), .int .u64 0] 44) :: (Cel b1 (OpV.cells o) 44) :: L) (by kernel_rfl) rfl ?_
            intro w25 hs26
            refine ⟨Xo, ?_⟩
            refine GoR.done (GoQ.thn (GoC.seq ?_))
            refine Xt (.rd 0 (.rd 1 (.rd 2 (.rd 3 (.rd 4 (.rd 5 (.ef 6 (.rd 7 (.rd 8 (.rd 9 (.rd 10 (.ef 11 (.rd 12 (.rd 13 .done)))))))))))))) ?_
            refine Xk [(0, .agg (OpV.cells o)), (1, .agg #[.int .u8 o.kind, .string o.key, .string o.value, .string o.old, .string (⟨#[]⟩ : ByteArray), .int .u64 0])] [(0, [.prop (Array.size (OpV.cells o) = 6), .cells ⟨b1, 0, none⟩ (OpV.cells o)]), (1, [.prop (Array.size (#[.int .u8 o.kind, .string o.key, .string o.value, .string o.old, .string (⟨#[]⟩ : ByteArray), .int .u64 0] : Array Value) = 6), .cells ⟨b4, 0, none⟩ #[.int .u8 o.kind, .string o.key, .string o.value, .string o.old, .string (⟨#[]⟩ : ByteArray), .int .u64 0]])] [(43, .agg #[.int .u8 o.kind, .string o.key, .string o.value, .string o.old, .string (⟨#[]⟩ : ByteArray), .int .u64 0]), (42, .agg (OpV.cells o)), (2, .bool false), (1, vp b1 0)] (ak (okp (by kernel_rfl) (oka (hs26.cells 1 0 rfl (by kernel_rfl)) ok0)) (ak (okp (by kernel_rfl) (oka (hs26.cells 0 0 rfl (by kernel_rfl)) ok0)) ak0)) ?_
            refine GoR.eqAgg rfl (by kernel_rfl) (b := true) (t := 44) (xs := OpV.cells o) (ys := OpV.cells (⟨o.kind, o.key, o.value, o.old, (⟨#[]⟩ : ByteArray), 0⟩ : OpV)) (m := 2) (by kernel_rfl) (by kernel_rfl) (by decide) (by kernel_rfl) (r := decide (o = (⟨o.kind, o.key, o.value, o.old, (⟨#[]⟩ : ByteArray), 0⟩ : OpV))) (aggEq  (opEq o (⟨o.kind, o.key, o.value, o.old, (⟨#[]⟩ : ByteArray), 0⟩ : OpV))) ?_
            refine Xk [(3, .gen [])] [] [(45, .bool (decide (o = (⟨o.kind, o.key, o.value, o.old, (⟨#[]⟩ : ByteArray), 0⟩ : OpV)))), (2, .bool false), (1, vp b1 0)] ak0 ?_
            rcases Bool.eq_false_or_eq_true (decide (o = (⟨o.kind, o.key, o.value, o.old, (⟨#[]⟩ : ByteArray), 0⟩ : OpV))) with h27 | h27
            · refine Xs 45 true h27 ?_
              have h27' : o = (⟨o.kind, o.key, o.value, o.old, (⟨#[]⟩ : ByteArray), 0⟩ : OpV) := of_decide_eq_true h27
              refine Xk [(4, .gen []), (5, .gen [.string o.value])] [(5, [.cell ⟨b1, 2, none⟩ (.string o.value)])] [(47, .string o.value), (45, .bool true), (2, .bool false), (1, vp b1 0)] (ak (okc (hs26.cell 1 rfl (by kernel_rfl)) ok0) ak0) ?_
              refine Xa (f := 78) (args := #[.string o.value]) Tryz.call78 (rvalue_spec o.value  hs26) ?_
              rintro v29 w30 ⟨rfl, hs28⟩
              refine ⟨Xo, ?_⟩
              refine Xk [(7, .gen []), (8, .gen [])] [] [(50, .bool (rvalue o.value)), (2, .bool false), (1, vp b1 0)] ak0 ?_
              rcases Bool.eq_false_or_eq_true (rvalue o.value) with h31 | h31
              · refine Xs 50 true h31 ?_
                refine Xk [(9, .gen []), (10, .gen [.string o.old])] [(10, [.cell ⟨b1, 3, none⟩ (.string o.old)])] [(52, .string o.old), (50, .bool true), (2, .bool false)] (ak (okc (hs28.cell 1 rfl (by kernel_rfl)) ok0) ak0) ?_
                refine Xa (f := 78) (args := #[.string o.old]) Tryz.call78 (rvalue_spec o.old  hs28) ?_
                rintro v33 w34 ⟨rfl, hs32⟩
                refine ⟨Xo, ?_⟩
                refine Xk [(12, .gen []), (13, .gen [])] [] [(2, .bool (rvalue o.old))] ak0 ?_
                refine GoR.done (GoQ.thn (GoC.ret (GoQ.blkR (GoQ.skipCR ?_))))
                refine X1 (v := .bool (rvalue o.old)) ?_
                have hr : rmay o = (rvalue o.old) := by rw [rmay, if_neg (ne_true_of_eq_false h12), if_neg (ne_true_of_eq_false h13), if_neg (ne_true_of_eq_false h14), if_neg (ne_true_of_eq_false h15), if_pos h22, if_pos h27, if_pos h31]
                exact ⟨by first | (rw [hr]; done) | (rw [hr]; rfl), hs32.drop 2⟩
              · refine Xs 50 false h31 ?_
                refine Xk [(9, .gen []), (10, .gen [])] [] [(52, undef), (50, .bool false), (2, .bool false)] ak0 ?_
                refine GoR.skip rfl (by kernel_rfl) Xo ?_
                refine Xk [(12, .gen []), (13, .gen [])] [] [(2, .bool false)] ak0 ?_
                refine GoR.done (GoQ.thn (GoC.ret (GoQ.blkR (GoQ.skipCR ?_))))
                refine X1 (v := .bool false) ?_
                have hr : rmay o = false := by rw [rmay, if_neg (ne_true_of_eq_false h12), if_neg (ne_true_of_eq_false h13), if_neg (ne_true_of_eq_false h14), if_neg (ne_true_of_eq_false h15), if_pos h22, if_pos h27, if_neg (ne_true_of_eq_false h31)]
                exact ⟨by first | (rw [hr]; done) | (rw [hr]; rfl), hs28.drop 2⟩
            · refine Xs 45 false h27 ?_
              have h27' : ¬ (o = (⟨o.kind, o.key, o.value, o.old, (⟨#[]⟩ : ByteArray), 0⟩ : OpV)) := of_decide_eq_false h27
              refine Xk [(4, .gen []), (5, .gen [])] [] [(47, undef), (45, .bool false), (2, .bool false), (1, vp b1 0)] ak0 ?_
              refine GoR.skip rfl (by kernel_rfl) Xo ?_
              refine Xk [(7, .gen []), (8, .gen []), (9, .gen []), (10, .gen [])] [] [(52, undef), (50, .bool false), (2, .bool false)] ak0 ?_
              refine GoR.skip rfl (by kernel_rfl) Xo ?_
              refine Xk [(12, .gen []), (13, .gen [])] [] [(2, .bool false)] ak0 ?_
              refine GoR.done (GoQ.thn (GoC.ret (GoQ.blkR (GoQ.skipCR ?_))))
              refine X1 (v := .bool false) ?_
              have hr : rmay o = false := by rw [rmay, if_neg (ne_true_of_eq_false h12), if_neg (ne_true_of_eq_false h13), if_neg (ne_true_of_eq_false h14), if_neg (ne_true_of_eq_false h15), if_pos h22, if_neg (ne_true_of_eq_false h27)]
              exact ⟨by first | (rw [hr]; done) | (rw [hr]; rfl), hs26.drop 2⟩
          · have h22' : ¬ ((o.kind : Int) = 4) := ieqF h22
            refine GoC.seq ?_
            refine Xt (.rd 0 (.rd 1 .done)) ?_
            refine Xk [(0, .gen []), (1, .gen [])] [] [(55, .bool ((o.kind : Int) == 5)), (3, vp b4 0), (2, .bool false), (1, vp b1 0)] ak0 ?_
            refine GoR.done (GoQ.thn ?_)
            refine Xc (t := (o.kind : Int) == 5) (fun h35 => ?_) (fun h35 => ?_)
            · have h35' : (o.kind : Int) = 5 := ieqT h35
              refine GoC.seq ?_
              refine Xt (.rd 0 (.rd 1 (.rd 2 (.ef 3 .done)))) ?_
              refine Xk [(0, .gen []), (1, .gen [.string o.dest]), (2, .gen [])] [(1, [.cell ⟨b1, 4, none⟩ (.string o.dest)])] [(59, vp b4 4), (58, .string o.dest), (3, vp b4 0), (2, .bool false), (1, vp b1 0)] (ak (okc (hs9.cell 1 rfl (by kernel_rfl)) ok0) ak0) ?_
              refine GoR.store rfl rfl (by kernel_rfl) (b := b4) (off := 4) (v := .string o.dest) (by kernel_rfl) (by kernel_rfl) (ti := Tryz.t9) (by kernel_rfl) hs9 0 rfl (by kernel_rfl) (by kernel_rfl) (Nat.le_of_ble_eq_true (by kernel_rfl)) (cs' := #[.int .u8 o.kind, .string o.key, .string (⟨#[]⟩ : ByteArray), .string (⟨#[]⟩ : ByteArray), .string o.dest, .int .u64 0]) (L' := (Cel b4 #[.int .u8 o.kind, .string o.key, .string (⟨#[]⟩ : ByteArray), .string (⟨#[]⟩ : ByteArray), .string o.dest, .int .u64 0] 44) :: (Cel b1 (OpV.cells o) 44) :: L) (by kernel_rfl) rfl ?_
              intro w36 hs37
              refine ⟨Xo, ?_⟩
              refine GoR.done (GoQ.thn (GoC.seq ?_))
              refine Xt (.rd 0 (.rd 1 (.rd 2 (.ef 3 .done)))) ?_
              refine Xk [(0, .gen []), (1, .gen [.int .u64 o.amount]), (2, .gen [])] [(1, [.cell ⟨b1, 5, none⟩ (.int .u64 o.amount)])] [(62, vp b4 5), (61, .int .u64 o.amount), (3, vp b4 0), (2, .bool false), (1, vp b1 0)] (ak (okc (hs37.cell 1 rfl (by kernel_rfl)) ok0) ak0) ?_
              refine GoR.store rfl rfl (by kernel_rfl) (b := b4) (off := 5) (v := .int .u64 o.amount) (by kernel_rfl) (by kernel_rfl) (ti := Tryz.t42) (by kernel_rfl) hs37 0 rfl (by kernel_rfl) (by kernel_rfl) (Nat.le_of_ble_eq_true (by kernel_rfl)) (cs' := #[.int .u8 o.kind, .string o.key, .string (⟨#[]⟩ : ByteArray), .string (⟨#[]⟩ : ByteArray), .string o.dest, .int .u64 o.amount]) (L' := (Cel b4 #[.int .u8 o.kind, .string o.key, .string (⟨#[]⟩ : ByteArray), .string (⟨#[]⟩ : ByteArray), .string o.dest, .int .u64 o.amount] 44) :: (Cel b1 (OpV.cells o) 44) :: L) (by kernel_rfl) rfl ?_
              intro w38 hs39
              refine ⟨Xo, ?_⟩
              refine GoR.done (GoQ.thn (GoC.seq ?_))
              refine Xt (.rd 0 (.rd 1 (.rd 2 (.rd 3 (.rd 4 (.rd 5 (.ef 6 (.rd 7 (.rd 8 (.rd 9 (.rd 10 (.rd 11 (.rd 12 (.rd 13 (.rd 14 (.rd 15 (.rd 16 (.rd 17 (.rd 18 (.rd 19 (.rd 20 (.rd 21 (.rd 22 (.rd 23 (.rd 24 (.rd 25 .done)))))))))))))))))))))))))) ?_
              refine Xk [(0, .agg (OpV.cells o)), (1, .agg #[.int .u8 o.kind, .string o.key, .string (⟨#[]⟩ : ByteArray), .string (⟨#[]⟩ : ByteArray), .string o.dest, .int .u64 o.amount])] [(0, [.prop (Array.size (OpV.cells o) = 6), .cells ⟨b1, 0, none⟩ (OpV.cells o)]), (1, [.prop (Array.size (#[.int .u8 o.kind, .string o.key, .string (⟨#[]⟩ : ByteArray), .string (⟨#[]⟩ : ByteArray), .string o.dest, .int .u64 o.amount] : Array Value) = 6), .cells ⟨b4, 0, none⟩ #[.int .u8 o.kind, .string o.key, .string (⟨#[]⟩ : ByteArray), .string (⟨#[]⟩ : ByteArray), .string o.dest, .int .u64 o.amount]])] [(64, .agg #[.int .u8 o.kind, .string o.key, .string (⟨#[]⟩ : ByteArray), .string (⟨#[]⟩ : ByteArray), .string o.dest, .int .u64 o.amount]), (63, .agg (OpV.cells o)), (2, .bool false), (1, vp b1 0)] (ak (okp (by kernel_rfl) (oka (hs39.cells 1 0 rfl (by kernel_rfl)) ok0)) (ak (okp (by kernel_rfl) (oka (hs39.cells 0 0 rfl (by kernel_rfl)) ok0)) ak0)) ?_
              refine GoR.eqAgg rfl (by kernel_rfl) (b := true) (t := 44) (xs := OpV.cells o) (ys := OpV.cells (⟨o.kind, o.key, (⟨#[]⟩ : ByteArray), (⟨#[]⟩ : ByteArray), o.dest, o.amount⟩ : OpV)) (m := 2) (by kernel_rfl) (by kernel_rfl) (by decide) (by kernel_rfl) (r := decide (o = (⟨o.kind, o.key, (⟨#[]⟩ : ByteArray), (⟨#[]⟩ : ByteArray), o.dest, o.amount⟩ : OpV))) (aggEq  (opEq o (⟨o.kind, o.key, (⟨#[]⟩ : ByteArray), (⟨#[]⟩ : ByteArray), o.dest, o.amount⟩ : OpV))) ?_
              refine Xk [(3, .gen [])] [] [(66, .bool (decide (o = (⟨o.kind, o.key, (⟨#[]⟩ : ByteArray), (⟨#[]⟩ : ByteArray), o.dest, o.amount⟩ : OpV)))), (2, .bool false), (1, vp b1 0)] ak0 ?_
              rcases Bool.eq_false_or_eq_true (decide (o = (⟨o.kind, o.key, (⟨#[]⟩ : ByteArray), (⟨#[]⟩ : ByteArray), o.dest, o.amount⟩ : OpV))) with h40 | h40
              · refine Xs 66 true h40 ?_
                have h40' : o = (⟨o.kind, o.key, (⟨#[]⟩ : ByteArray), (⟨#[]⟩ : ByteArray), o.dest, o.amount⟩ : OpV) := of_decide_eq_true h40
                refine Xk [(4, .gen []), (5, .gen [.string o.dest])] [(5, [.cell ⟨b1, 4, none⟩ (.string o.dest)])] [(68, .string o.dest), (66, .bool true), (2, .bool false), (1, vp b1 0)] (ak (okc (hs39.cell 1 rfl (by kernel_rfl)) ok0) ak0) ?_
                refine Xa (f := 77) (args := #[.string o.dest]) Tryz.call77 (rkey_spec o.dest  hs39) ?_
                rintro v42 w43 ⟨rfl, hs41⟩
                refine ⟨Xo, ?_⟩
                refine Xk [(7, .gen []), (8, .gen [])] [] [(71, .bool (rkey o.dest)), (2, .bool false), (1, vp b1 0)] ak0 ?_
                rcases Bool.eq_false_or_eq_true (rkey o.dest) with h44 | h44
                · refine Xs 71 true h44 ?_
                  refine Xk [(9, .gen []), (10, .gen [.string o.dest]), (11, .gen []), (12, .gen [.string o.key]), (13, .as_ (.bool (!(decide (o.dest = o.key)))) (.gen [])), (14, .gen []), (15, .gen [])] [(10, [.cell ⟨b1, 4, none⟩ (.string o.dest)]), (12, [.cell ⟨b1, 1, none⟩ (.string o.key)]), (13, [.prop (Value.bool (!(o.dest.toList == o.key.toList)) = Value.bool (!(decide (o.dest = o.key))))])] [(78, .bool (!(decide (o.dest = o.key)))), (2, .bool false), (1, vp b1 0)] (ak (okc (hs41.cell 1 rfl (by kernel_rfl)) ok0) (ak (okc (hs41.cell 1 rfl (by kernel_rfl)) ok0) (ak (okp (sne _ _) ok0) ak0))) ?_
                  rcases Bool.eq_false_or_eq_true (!(decide (o.dest = o.key))) with h45 | h45
                  · refine Xs 78 true h45 ?_
                    have h45n : (decide (o.dest = o.key)) = false := notT h45
                    have h45n' : ¬ (o.dest = o.key) := of_decide_eq_false h45n
                    refine Xk [(16, .gen []), (17, .gen [.int .u64 o.amount]), (18, .gen []), (19, .gen []), (20, .gen [])] [(17, [.cell ⟨b1, 5, none⟩ (.int .u64 o.amount)])] [(83, .bool (decide ((o.amount : Int) ≥ 1))), (2, .bool false), (1, vp b1 0)] (ak (okc (hs41.cell 1 rfl (by kernel_rfl)) ok0) ak0) ?_
                    rcases Bool.eq_false_or_eq_true (decide ((o.amount : Int) ≥ 1)) with h46 | h46
                    · refine Xs 83 true h46 ?_
                      have h46' : (o.amount : Int) ≥ 1 := of_decide_eq_true h46
                      refine Xk [(21, .gen []), (22, .gen [.int .u64 o.amount]), (23, .gen []), (24, .gen []), (25, .gen [])] [(22, [.cell ⟨b1, 5, none⟩ (.int .u64 o.amount)])] [(2, .bool (decide ((o.amount : Int) ≤ 1125899906842624)))] (ak (okc (hs41.cell 1 rfl (by kernel_rfl)) ok0) ak0) ?_
                      refine GoR.done (GoQ.thn (GoC.ret (GoQ.blkR (GoQ.skipCR ?_))))
                      refine X1 (v := .bool (decide ((o.amount : Int) ≤ 1125899906842624))) ?_
                      have hr : rmay o = (decide ((o.amount : Int) ≤ 1125899906842624)) := by rw [rmay, if_neg (ne_true_of_eq_false h12), if_neg (ne_true_of_eq_false h13), if_neg (ne_true_of_eq_false h14), if_neg (ne_true_of_eq_false h15), if_neg (ne_true_of_eq_false h22), if_pos h35, if_pos h40, if_pos h44, if_pos h45, if_pos h46]
                      exact ⟨by first | (rw [hr]; done) | (rw [hr]; rfl), hs41.drop 2⟩
                    · refine Xs 83 false h46 ?_
                      have h46' : ¬ ((o.amount : Int) ≥ 1) := of_decide_eq_false h46
                      refine Xk [(21, .gen []), (22, .gen []), (23, .gen []), (24, .gen []), (25, .gen [])] [] [(2, .bool false)] ak0 ?_
                      refine GoR.done (GoQ.thn (GoC.ret (GoQ.blkR (GoQ.skipCR ?_))))
                      refine X1 (v := .bool false) ?_
                      have hr : rmay o = false := by rw [rmay, if_neg (ne_true_of_eq_false h12), if_neg (ne_true_of_eq_false h13), if_neg (ne_true_of_eq_false h14), if_neg (ne_true_of_eq_false h15), if_neg (ne_true_of_eq_false h22), if_pos h35, if_pos h40, if_pos h44, if_pos h45, if_neg (ne_true_of_eq_false h46)]
                      exact ⟨by first | (rw [hr]; done) | (rw [hr]; rfl), hs41.drop 2⟩
                  · refine Xs 78 false h45 ?_
                    have h45n : (decide (o.dest = o.key)) = true := notF h45
                    have h45n' : o.dest = o.key := of_decide_eq_true h45n
                    refine Xk [(16, .gen []), (17, .gen []), (18, .gen []), (19, .gen []), (20, .gen []), (21, .gen []), (22, .gen []), (23, .gen []), (24, .gen []), (25, .gen [])] [] [(2, .bool false)] ak0 ?_
                    refine GoR.done (GoQ.thn (GoC.ret (GoQ.blkR (GoQ.skipCR ?_))))
                    refine X1 (v := .bool false) ?_
                    have hr : rmay o = false := by rw [rmay, if_neg (ne_true_of_eq_false h12), if_neg (ne_true_of_eq_false h13), if_neg (ne_true_of_eq_false h14), if_neg (ne_true_of_eq_false h15), if_neg (ne_true_of_eq_false h22), if_pos h35, if_pos h40, if_pos h44, if_neg (ne_true_of_eq_false h45)]
                    exact ⟨by first | (rw [hr]; done) | (rw [hr]; rfl), hs41.drop 2⟩
                · refine Xs 71 false h44 ?_
                  refine Xk [(9, .gen []), (10, .gen []), (11, .gen []), (12, .gen []), (13, .gen []), (14, .gen []), (15, .gen []), (16, .gen []), (17, .gen []), (18, .gen []), (19, .gen []), (20, .gen []), (21, .gen []), (22, .gen []), (23, .gen []), (24, .gen []), (25, .gen [])] [] [(2, .bool false)] ak0 ?_
                  refine GoR.done (GoQ.thn (GoC.ret (GoQ.blkR (GoQ.skipCR ?_))))
                  refine X1 (v := .bool false) ?_
                  have hr : rmay o = false := by rw [rmay, if_neg (ne_true_of_eq_false h12), if_neg (ne_true_of_eq_false h13), if_neg (ne_true_of_eq_false h14), if_neg (ne_true_of_eq_false h15), if_neg (ne_true_of_eq_false h22), if_pos h35, if_pos h40, if_neg (ne_true_of_eq_false h44)]
                  exact ⟨by first | (rw [hr]; done) | (rw [hr]; rfl), hs41.drop 2⟩
              · refine Xs 66 false h40 ?_
                have h40' : ¬ (o = (⟨o.kind, o.key, (⟨#[]⟩ : ByteArray), (⟨#[]⟩ : ByteArray), o.dest, o.amount⟩ : OpV)) := of_decide_eq_false h40
                refine Xk [(4, .gen []), (5, .gen [])] [] [(68, undef), (66, .bool false), (2, .bool false), (1, vp b1 0)] ak0 ?_
                refine GoR.skip rfl (by kernel_rfl) Xo ?_
                refine Xk [(7, .gen []), (8, .gen []), (9, .gen []), (10, .gen []), (11, .gen []), (12, .gen []), (13, .gen []), (14, .gen []), (15, .gen []), (16, .gen []), (17, .gen []), (18, .gen []), (19, .gen []), (20, .gen []), (21, .gen []), (22, .gen []), (23, .gen []), (24, .gen []), (25, .gen [])] [] [(2, .bool false)] ak0 ?_
                refine GoR.done (GoQ.thn (GoC.ret (GoQ.blkR (GoQ.skipCR ?_))))
                refine X1 (v := .bool false) ?_
                have hr : rmay o = false := by rw [rmay, if_neg (ne_true_of_eq_false h12), if_neg (ne_true_of_eq_false h13), if_neg (ne_true_of_eq_false h14), if_neg (ne_true_of_eq_false h15), if_neg (ne_true_of_eq_false h22), if_pos h35, if_neg (ne_true_of_eq_false h40)]
                exact ⟨by first | (rw [hr]; done) | (rw [hr]; rfl), hs39.drop 2⟩
            · have h35' : ¬ ((o.kind : Int) = 5) := ieqF h35
              refine GoC.skip (GoQ.blkN (GoQ.thn (GoC.seq ?_)))
              refine Xt (.rd 0 .done) ?_
              refine Xk [(0, .gen [])] [] [(2, .bool false)] ak0 ?_
              refine GoR.done (GoQ.thn (GoC.ret ?_))
              refine X1 (v := .bool false) ?_
              have hr : rmay o = false := by rw [rmay, if_neg (ne_true_of_eq_false h12), if_neg (ne_true_of_eq_false h13), if_neg (ne_true_of_eq_false h14), if_neg (ne_true_of_eq_false h15), if_neg (ne_true_of_eq_false h22), if_neg (ne_true_of_eq_false h35)]
              exact ⟨by first | (rw [hr]; done) | (rw [hr]; rfl), hs9.drop 2⟩
def fnd (l : List ItemV) (k : ByteArray) : Nat := (l.takeWhile fun x => slt x.key k).length
theorem fnd_le (l : List ItemV) (k : ByteArray) : fnd l k ≤ l.length := (List.takeWhile_sublist _).length_le
theorem fnd_eq {l : List ItemV} {k : ByteArray} {n : Nat} (hn : n ≤ l.length) (h1 : ∀ x ∈ l.take n, slt x.key k = true) (h2 : ∀ (h : n < l.length), slt (l[n]'h).key k = false) : fnd l k = n := by
  induction l generalizing n with
  | nil => simp at hn; subst hn; rfl
  | cons x l ih =>
    cases n with
    | zero =>
      have := h2 (by simp)
      simp only [List.getElem_cons_zero] at this
      simp [fnd, List.takeWhile, this]
    | succ n =>
      have h3 := h1 x (by simp)
      have h4 := ih (n := n) (by simpa using hn) (fun y hy => h1 y (by simp [hy])) (fun h => h2 (by simp only [List.length_cons]; omega))
      simp only [fnd, List.takeWhile, h3, List.length_cons] at h4 ⊢
      omega
def fis (l : List ItemV) (k : ByteArray) : Bool := decide (fnd l k < l.length) && decide ((l.getD (fnd l k) dItem).key = k)
theorem fis_eq (l : List ItemV) (k : ByteArray) : fis l k = (decide (((fnd l k : Nat) : Int) < (l.length : Nat)) && decide ((l.getD (fnd l k) dItem).key = k)) := by
  rw [fis]
  congr 1
  rw [decide_eq_decide]
  omega
theorem fnd_exit {l : List ItemV} {k : ByteArray} {n : Nat} (hn : n ≤ l.length) (h1 : ∀ x ∈ l.take n, slt x.key k = true) (h2 : (decide (((n : Nat) : Int) < (l.length : Nat)) && slt (l.getD n dItem).key k) = false) : fnd l k = n := by
  refine fnd_eq hn h1 fun h => ?_
  rw [decide_eq_true (by omega), Bool.true_and, List.getD_eq_getElem?_getD, List.getElem?_eq_getElem h] at h2
  exact h2
theorem fnd_go {l : List ItemV} {k : ByteArray} {n : Nat} (h1 : ∀ x ∈ l.take n, slt x.key k = true) (h2 : (decide (((n : Nat) : Int) < (l.length : Nat)) && slt (l.getD n dItem).key k) = true) : n < l.length ∧ ∀ x ∈ l.take (n + 1), slt x.key k = true := by
  rw [Bool.and_eq_true] at h2
  have hn : n < l.length := by have := of_decide_eq_true h2.1; omega
  refine ⟨hn, fun x hx => ?_⟩
  rw [take_succ_getD (d := dItem) hn] at hx
  rcases List.mem_append.1 hx with hx | hx
  · exact h1 x hx
  · rw [List.mem_singleton.1 hx]; exact h2.2
theorem find_spec {w0 w : World} {L : List Asn} {q : Nat} {ad : Option Addr} {c : Nat} (l : List ItemV) (key : ByteArray) (hl : l.length ≤ 1000000000000) (hs : St w0 ((Cel q #[.slice ad l.length c] 105) :: (Sl ad c 142 2 ItemV.cells l) :: L) w) : Calls Tryz.prog 72 #[vp q 0, .string key] w (Ret fun rv w' => rv = .tuple #[.int .i64 (fnd l key : Nat), .bool (fis l key)] ∧ fnd l key ≤ l.length ∧ St w0 ((Cel q #[.slice ad l.length c] 105) :: (Sl ad c 142 2 ItemV.cells l) :: L) w') := by
  refine enter (args := [vp q 0, .string key]) Tryz.func72 rfl Tryz.ntmps72 (Nat.le_of_ble_eq_true (by kernel_rfl)) ?_
  refine GoC.slots (S' := [(0, vp q 0), (1, .string key)]) rfl ?_
  refine GoC.seq ?_
  refine Xt (.rd 0 (.rd 1 .done)) ?_
  refine Xk [(0, .gen []), (1, .gen [])] [] [(5, .bool false), (4, .int .i64 0), (0, vp q 0), (1, .string key)] ak0 ?_
  refine GoR.done (GoQ.thn (GoC.seq ?_))
  refine Xt (.rd 0 .done) ?_
  refine Xk [(0, .gen [])] [] [(6, .int .i64 0), (5, .bool false), (4, .int .i64 0), (0, vp q 0), (1, .string key)] ak0 ?_
  refine GoR.done (GoQ.thn (GoC.seq (GoC.block ?_)))
  refine GoC.loop (T := Nat) (fun gg => [(0, vp q 0), (1, .string key), (4, .int .i64 0), (5, .bool false), (6, .int .i64 (gg : Nat))]) (fun gg w => (gg ≤ l.length ∧ ∀ x ∈ l.take gg, slt x.key key = true) ∧ St w0 ((Cel q #[.slice ad l.length c] 105) :: (Sl ad c 142 2 ItemV.cells l) :: L) w) (fun gg => l.length - gg) 0 [0, 1, 4, 5, 6] (by kernel_rfl) ⟨⟨Nat.zero_le _, fun x hx => by simp at hx⟩, hs⟩ ?_
  rintro k w1 ⟨hp0, hs2⟩
  have hp : k ≤ l.length ∧ ∀ x ∈ l.take k, slt x.key key = true := hp0
  have hs3 : St w0 ((Cel q #[.slice ad l.length c] 105) :: (Sl ad c 142 2 ItemV.cells l) :: L) w1 := hs2
  refine GoC.slots (S' := [(0, vp q 0), (1, .string key), (4, .int .i64 0), (5, .bool false), (6, .int .i64 (k : Nat))]) rfl ?_
  refine GoC.seq (GoC.seq ?_)
  refine GoC.join (T := Unit) (E := fun _ => [(25, .bool ((decide (((k : Nat) : Int) < (l.length : Nat))) && (slt ((l.getD k dItem).key) key))), (0, vp q 0), (1, .string key), (4, .int .i64 0), (5, .bool false), (6, .int .i64 (k : Nat))]) (F := fun _ w => St w0 ((Cel q #[.slice ad l.length c] 105) :: (Sl ad c 142 2 ItemV.cells l) :: L) w) ?_ ?_
  · refine Xt (.rd 0 (.rd 1 (.rd 2 (.rd 3 (.rd 4 (.rd 5 (.rd 6 (.rd 7 (.rd 8 (.rd 9 (.rd 10 (.rd 11 (.rd 12 (.rd 13 (.rd 14 (.rd 15 (.rd 16 (.rd 17 (.rd 18 .done))))))))))))))))))) ?_
    refine Xk [(0, .gen []), (1, .gen []), (2, .gen []), (3, .gen []), (4, .gen [.slice ad l.length c]), (5, .gen []), (6, .gen []), (7, .gen [])] [(4, [.cell ⟨q, 0, none⟩ (.slice ad l.length c)])] [(14, .bool (decide (((k : Nat) : Int) < (l.length : Nat)))), (0, vp q 0), (1, .string key), (4, .int .i64 0), (5, .bool false), (6, .int .i64 (k : Nat))] (ak (okc (hs3.cell 0 rfl (by kernel_rfl)) ok0) ak0) ?_
    rcases Bool.eq_false_or_eq_true (decide (((k : Nat) : Int) < (l.length : Nat))) with h4 | h4
    · refine Xs 14 true h4 ?_
      have h4' : ((k : Nat) : Int) < (l.length : Nat) := of_decide_eq_true h4
      have hk : k < l.length := by omega
      obtain ⟨ab5, rfl⟩ := Sl.isSome (hs3.at_ 1 rfl) (by omega)
      refine Xk [(8, .gen []), (9, .gen []), (10, .gen []), (11, .gen [vl ab5 0 l.length c]), (12, .gen []), (13, .as_ (vp ab5 (0 + (k * 2))) .at_), (14, .gen []), (15, .gen [.string ((l.getD k dItem).key)]), (16, .gen []), (17, .as_ (.bool (slt ((l.getD k dItem).key) key)) (.gen [])), (18, .gen [])] [(11, [.cell ⟨q, 0, none⟩ (vl ab5 0 l.length c)]), (13, [.prop (0 ≤ ((k : Nat) : Int) ∧ ((k : Nat) : Int) < ((l.length : Nat) : Int)), .prop (Value.pointer (some (Addr.add ⟨ab5, 0, none⟩ (Int.toNat (k : Nat) * 2))) = Value.pointer (some ⟨ab5, 0 + (k * 2), none⟩))]), (15, [.cell ⟨ab5, 0 + (k * 2), none⟩ (.string ((l.getD k dItem).key))]), (17, [.prop (Value.bool (Op.bytesLess ((l.getD k dItem).key).toList key.toList) = Value.bool (slt ((l.getD k dItem).key) key))])] [(25, .bool (slt ((l.getD k dItem).key) key)), (0, vp q 0), (1, .string key), (4, .int .i64 0), (5, .bool false), (6, .int .i64 (k : Nat))] (ak (okc (hs3.cell 0 rfl (by kernel_rfl)) ok0) (ak (okp (by omega) (okp (ptrAdd _ _ _) ok0)) (ak (okc (RowsAt.at0 (hs3.rows 1 rfl (itemF).size dItem) (k := k) (by first | omega | (simp only [List.length_set]; omega) | (simp only [List.length_set, List.length_append, List.length_cons, List.length_nil]; omega)) (j := 0) (by decide) (by kernel_rfl)) ok0) (ak (okp rfl ok0) ak0)))) ?_
      refine GoR.done ?_
      refine GoQ.pick [25, 0, 1, 4, 5, 6] (S' := [(25, .bool (slt ((l.getD k dItem).key) key)), (0, vp q 0), (1, .string key), (4, .int .i64 0), (5, .bool false), (6, .int .i64 (k : Nat))]) (by kernel_rfl) ?_
      exact GoQ.meet1 () (by first | rfl | (simp only [h4, Bool.not_true, Bool.not_false, Bool.true_or, Bool.false_or, Bool.true_and, Bool.false_and, Bool.or_true, Bool.or_false, Bool.and_true, Bool.and_false]; done) | (simp [h4]; done)) hs3
    · refine Xs 14 false h4 ?_
      have h4' : ¬ (((k : Nat) : Int) < (l.length : Nat)) := of_decide_eq_false h4
      refine Xk [(8, .gen []), (9, .gen []), (10, .gen []), (11, .gen []), (12, .gen []), (13, .gen []), (14, .gen []), (15, .gen []), (16, .gen []), (17, .gen []), (18, .gen [])] [] [(25, .bool false), (0, vp q 0), (1, .string key), (4, .int .i64 0), (5, .bool false), (6, .int .i64 (k : Nat))] ak0 ?_
      refine GoR.done ?_
      refine GoQ.pick [25, 0, 1, 4, 5, 6] (S' := [(25, .bool false), (0, vp q 0), (1, .string key), (4, .int .i64 0), (5, .bool false), (6, .int .i64 (k : Nat))]) (by kernel_rfl) ?_
      exact GoQ.meet1 () (by first | rfl | (simp only [h4, Bool.not_true, Bool.not_false, Bool.true_or, Bool.false_or, Bool.true_and, Bool.false_and, Bool.or_true, Bool.or_false, Bool.and_true, Bool.and_false]; done) | (simp [h4]; done)) hs3
  intro _ w7 hs8
  refine GoQ.thn ?_
  refine Xc (t := (decide (((k : Nat) : Int) < (l.length : Nat))) && (slt ((l.getD k dItem).key) key)) (fun h9 => ?_) (fun h9 => ?_)
  · have h9a : (decide (((k : Nat) : Int) < (l.length : Nat))) = true := (Bool.and_eq_true_iff.1 h9).1
    have h9a' : ((k : Nat) : Int) < (l.length : Nat) := of_decide_eq_true h9a
    have h9b : (slt ((l.getD k dItem).key) key) = true := (Bool.and_eq_true_iff.1 h9).2
    have hgo := h9
    refine GoC.skip (GoQ.thn (GoC.block ?_))
    refine Xt (.rd 0 (.rd 1 (.rd 2 .done))) ?_
    refine Xk [(0, .gen []), (1, .as_ (.int .i64 ((k : Nat) + 1)) (.gen [])), (2, .gen [])] [(1, [.prop (Value.int .i64 (IntKind.i64.wrap ((k : Nat) + 1)) = Value.int .i64 ((k : Nat) + 1))])] [(6, .int .i64 ((k : Nat) + 1)), (0, vp q 0), (1, .string key), (4, .int .i64 0), (5, .bool false)] (ak (okp (i64ok (by omega) (by omega)) ok0) ak0) ?_
    refine GoR.done (GoQ.blkN ?_)
    exact GoQ.back (k + 1) [0, 1, 4, 5, 6] (by kernel_rfl) (by show l.length - (k + 1) < l.length - k; have := (fnd_go hp.2 hgo).1; omega) ⟨⟨by have := (fnd_go hp.2 hgo).1; omega, (fnd_go hp.2 hgo).2⟩, hs8⟩
  · have hf : fnd l key = k := fnd_exit hp.1 hp.2 h9
    refine GoC.exit (GoQ.skipC (GoQ.skipL (GoQ.hit (GoQ.thn (GoC.seq ?_)))))
    refine GoC.join (T := Unit) (E := fun _ => [(5, .bool ((decide (((k : Nat) : Int) < (l.length : Nat))) && (decide (((l.getD k dItem).key) = key)))), (4, .int .i64 (k : Nat))]) (F := fun _ w => St w0 ((Cel q #[.slice ad l.length c] 105) :: (Sl ad c 142 2 ItemV.cells l) :: L) w) ?_ ?_
    · refine GoC.regD [0, 0, 0, 4, 12, 28, 60, 126, 254, 510, 1022, 2046, 4094, 510, 16382, 32766, 65534, 510, 262142, 524286, 511, 2097151] (.rd 0 (.rd 1 (.rd 2 (.rd 3 (.rd 4 (.rd 5 (.rd 6 (.rd 7 (.rd 8 (.rd 9 (.rd 10 (.rd 11 (.rd 12 (.rd 13 (.rd 14 (.rd 15 (.rd 16 (.rd 17 (.rd 18 (.rd 19 (.rd 20 (.rd 21 .done)))))))))))))))))))))) (by kernel_rfl) (by kernel_rfl) noPan_body (by kernel_rfl) hs8 ?_
      intro w10 hs11 hw12
      refine Xk [(0, .gen []), (1, .gen []), (2, .gen []), (3, .gen []), (4, .gen []), (5, .gen [.slice ad l.length c]), (6, .gen []), (7, .gen []), (8, .gen [])] [(5, [.cell ⟨q, 0, none⟩ (.slice ad l.length c)])] [(36, .bool (decide (((k : Nat) : Int) < (l.length : Nat)))), (28, .int .i64 (k : Nat)), (0, vp q 0), (1, .string key), (4, .int .i64 0), (5, .bool false), (6, .int .i64 (k : Nat))] (ak (okc (hs11.cell 0 rfl (by kernel_rfl)) ok0) ak0) ?_
      rcases Bool.eq_false_or_eq_true (decide (((k : Nat) : Int) < (l.length : Nat))) with h13 | h13
      · refine Xs 36 true h13 ?_
        have h13' : ((k : Nat) : Int) < (l.length : Nat) := of_decide_eq_true h13
        have hk : k < l.length := by omega
        obtain ⟨ab14, rfl⟩ := Sl.isSome (hs11.at_ 1 rfl) (by omega)
        refine Xk [(9, .gen []), (10, .gen []), (11, .gen []), (12, .gen [vl ab14 0 l.length c]), (13, .gen []), (14, .as_ (vp ab14 (0 + (k * 2))) .at_), (15, .gen []), (16, .gen [.string ((l.getD k dItem).key)]), (17, .gen []), (18, .as_ (.bool (decide (((l.getD k dItem).key) = key))) (.gen [])), (19, .gen []), (20, .gen []), (21, .gen [])] [(12, [.cell ⟨q, 0, none⟩ (vl ab14 0 l.length c)]), (14, [.prop (0 ≤ ((k : Nat) : Int) ∧ ((k : Nat) : Int) < ((l.length : Nat) : Int)), .prop (Value.pointer (some (Addr.add ⟨ab14, 0, none⟩ (Int.toNat (k : Nat) * 2))) = Value.pointer (some ⟨ab14, 0 + (k * 2), none⟩))]), (16, [.cell ⟨ab14, 0 + (k * 2), none⟩ (.string ((l.getD k dItem).key))]), (18, [.prop (Value.bool (((l.getD k dItem).key).toList == key.toList) = Value.bool (decide (((l.getD k dItem).key) = key)))])] [(5, .bool (decide (((l.getD k dItem).key) = key))), (4, .int .i64 (k : Nat))] (ak (okc (hs11.cell 0 rfl (by kernel_rfl)) ok0) (ak (okp (by omega) (okp (ptrAdd _ _ _) ok0)) (ak (okc (RowsAt.at0 (hs11.rows 1 rfl (itemF).size dItem) (k := k) (by first | omega | (simp only [List.length_set]; omega) | (simp only [List.length_set, List.length_append, List.length_cons, List.length_nil]; omega)) (j := 0) (by decide) (by kernel_rfl)) ok0) (ak (okp (seq _ _) ok0) ak0)))) ?_
        refine GoR.done ?_
        refine GoQ.pick [5, 4] (S' := [(5, .bool (decide (((l.getD k dItem).key) = key))), (4, .int .i64 (k : Nat))]) (by kernel_rfl) ?_
        exact GoQ.meet1 () (by first | rfl | (simp only [h13, Bool.not_true, Bool.not_false, Bool.true_or, Bool.false_or, Bool.true_and, Bool.false_and, Bool.or_true, Bool.or_false, Bool.and_true, Bool.and_false]; done) | (simp [h13]; done)) hs11
      · refine Xs 36 false h13 ?_
        have h13' : ¬ (((k : Nat) : Int) < (l.length : Nat)) := of_decide_eq_false h13
        refine Xk [(9, .gen []), (10, .gen []), (11, .gen []), (12, .gen []), (13, .gen []), (14, .gen []), (15, .gen []), (16, .gen []), (17, .gen []), (18, .gen []), (19, .gen []), (20, .gen []), (21, .gen [])] [] [(5, .bool false), (4, .int .i64 (k : Nat))] ak0 ?_
        refine GoR.done ?_
        refine GoQ.pick [5, 4] (S' := [(5, .bool false), (4, .int .i64 (k : Nat))]) (by kernel_rfl) ?_
        exact GoQ.meet1 () (by first | rfl | (simp only [h13, Bool.not_true, Bool.not_false, Bool.true_or, Bool.false_or, Bool.true_and, Bool.false_and, Bool.or_true, Bool.or_false, Bool.and_true, Bool.and_false]; done) | (simp [h13]; done)) hs11
    intro _ w16 hs17
    refine GoQ.thn (GoC.ret ?_)
    refine X2 (v := .int .i64 (k : Nat)) (v' := .bool ((decide (((k : Nat) : Int) < (l.length : Nat))) && (decide (((l.getD k dItem).key) = key)))) ?_
    exact ⟨(by rw [fis_eq, hf]), (fnd_le _ _), hs17⟩
theorem fis_lt {l : List ItemV} {k : ByteArray} (h : fis l k = true) : fnd l k < l.length := by
  rw [fis, Bool.and_eq_true] at h
  exact of_decide_eq_true h.1
theorem fis_key {l : List ItemV} {k : ByteArray} (h : fis l k = true) : (l.getD (fnd l k) dItem).key = k := by
  rw [fis, Bool.and_eq_true] at h
  exact of_decide_eq_true h.2
def rget (l : List ItemV) (key : ByteArray) : ByteArray × Bool :=
  if (!(fis l key)) = true then
    ((⟨#[]⟩ : ByteArray), false)
  else
    ((l.getD (fnd l key) dItem).value, true)
theorem rget_spec {w0 w : World} {L : List Asn} {q : Nat} {ad : Option Addr} {c : Nat} (l : List ItemV) (key : ByteArray) (hl : l.length ≤ 1000000000000) (hs : St w0 ((Cel q #[.slice ad l.length c] 105) :: (Sl ad c 142 2 ItemV.cells l) :: L) w) : Calls Tryz.prog 70 #[vp q 0, .string key] w (Ret fun rv w' => rv = .tuple #[.string ((rget l key).1), .bool ((rget l key).2)] ∧ St w0 ((Cel q #[.slice ad l.length c] 105) :: (Sl ad c 142 2 ItemV.cells l) :: L) w') := by
  refine enter (args := [vp q 0, .string key]) Tryz.func70 rfl Tryz.ntmps70 (Nat.le_of_ble_eq_true (by kernel_rfl)) ?_
  refine GoC.slots (S' := [(0, vp q 0), (1, .string key)]) rfl ?_
  refine GoC.seq ?_
  refine Xt (.rd 0 (.rd 1 .done)) ?_
  refine Xk [(0, .gen []), (1, .gen [])] [] [(5, .bool false), (4, .string (⟨#[]⟩ : ByteArray)), (0, vp q 0), (1, .string key)] ak0 ?_
  refine GoR.done (GoQ.thn (GoC.seq ?_))
  refine Xt (.rd 0 (.rd 1 (.ef 2 (.rd 3 (.rd 4 (.rd 5 (.rd 6 (.rd 7 .done)))))))) ?_
  refine Xk [(0, .gen []), (1, .gen [])] [] [(10, .string key), (9, vp q 0), (5, .bool false), (4, .string (⟨#[]⟩ : ByteArray)), (0, vp q 0)] ak0 ?_
  refine Xa (f := 72) (args := #[vp q 0, .string key]) Tryz.call72 (find_spec l key (by first | assumption | omega) hs) ?_
  rintro v3 w4 ⟨rfl, hfl1, hs2⟩
  refine ⟨Xo, ?_⟩
  refine Xk [(3, .gen []), (4, .gen []), (5, .gen []), (6, .gen []), (7, .gen [])] [] [(7, .bool (fis l key)), (6, .int .i64 (fnd l key : Nat)), (5, .bool false), (4, .string (⟨#[]⟩ : ByteArray)), (0, vp q 0)] ak0 ?_
  refine GoR.done (GoQ.thn (GoC.seq (GoC.seq ?_)))
  refine Xt (.rd 0 (.rd 1 .done)) ?_
  refine Xk [(0, .gen []), (1, .gen [])] [] [(15, .bool (!(fis l key))), (6, .int .i64 (fnd l key : Nat)), (5, .bool false), (4, .string (⟨#[]⟩ : ByteArray)), (0, vp q 0)] ak0 ?_
  refine GoR.done (GoQ.thn ?_)
  refine Xc (t := !(fis l key)) (fun h5 => ?_) (fun h5 => ?_)
  · have h5n : (fis l key) = false := notT h5
    refine GoC.seq ?_
    refine Xt (.rd 0 (.rd 1 .done)) ?_
    refine Xk [(0, .gen []), (1, .gen [])] [] [(5, .bool false), (4, .string (⟨#[]⟩ : ByteArray)), (6, .int .i64 (fnd l key : Nat)), (0, vp q 0)] ak0 ?_
    refine GoR.done (GoQ.thn (GoC.ret (GoQ.skipCR ?_)))
    refine X2 (v := .string (⟨#[]⟩ : ByteArray)) (v' := .bool false) ?_
    have hr : rget l key = ((⟨#[]⟩ : ByteArray), false) := by rw [rget, if_pos h5]
    exact ⟨(by first | rfl | (rw [hr]; done) | (rw [hr]; rfl)), (by first | exact hs2 | (rw [hr]; exact hs2))⟩
  · have h5n : (fis l key) = true := notF h5
    have hlt := fis_lt h5n
    obtain ⟨ab6, rfl⟩ := Sl.isSome (hs2.at_ 1 rfl) (by omega)
    refine GoC.skip (GoQ.thn (GoC.seq ?_))
    refine Xt (.rd 0 (.rd 1 (.rd 2 (.rd 3 (.rd 4 (.rd 5 (.rd 6 (.rd 7 (.rd 8 (.rd 9 .done)))))))))) ?_
    refine Xk [(0, .gen []), (1, .gen []), (2, .gen []), (3, .gen [vl ab6 0 l.length c]), (4, .gen []), (5, .as_ (vp ab6 (0 + ((fnd l key) * 2))) .at_), (6, .gen []), (7, .gen [.string ((l.getD (fnd l key) dItem).value)]), (8, .gen []), (9, .gen [])] [(3, [.cell ⟨q, 0, none⟩ (vl ab6 0 l.length c)]), (5, [.prop (0 ≤ ((fnd l key : Nat) : Int) ∧ ((fnd l key : Nat) : Int) < ((l.length : Nat) : Int)), .prop (Value.pointer (some (Addr.add ⟨ab6, 0, none⟩ (Int.toNat (fnd l key : Nat) * 2))) = Value.pointer (some ⟨ab6, 0 + ((fnd l key) * 2), none⟩))]), (7, [.cell ⟨ab6, 0 + ((fnd l key) * 2) + 1, none⟩ (.string ((l.getD (fnd l key) dItem).value))])] [(5, .bool true), (4, .string ((l.getD (fnd l key) dItem).value))] (ak (okc (hs2.cell 0 rfl (by kernel_rfl)) ok0) (ak (okp (by omega) (okp (ptrAdd _ _ _) ok0)) (ak (okc (RowsAt.at0 (hs2.rows 1 rfl (itemF).size dItem) (k := (fnd l key)) (by first | omega | (simp only [List.length_set]; omega) | (simp only [List.length_set, List.length_append, List.length_cons, List.length_nil]; omega)) (j := 1) (by decide) (by kernel_rfl)) ok0) ak0))) ?_
    refine GoR.done (GoQ.thn (GoC.ret ?_))
    refine X2 (v := .string ((l.getD (fnd l key) dItem).value)) (v' := .bool true) ?_
    have hr : rget l key = ((l.getD (fnd l key) dItem).value, true) := by rw [rget, if_neg (ne_true_of_eq_false h5)]
    exact ⟨(by first | rfl | (rw [hr]; done) | (rw [hr]; rfl)), (by first | exact hs2 | (rw [hr]; exact hs2))⟩
def rset (l : List ItemV) (key : ByteArray) (v : ByteArray) : List ItemV :=
  if (fis l key) = true then
    (((l).take (fnd l key)) ++ ([(⟨key, v⟩ : ItemV)])) ++ ((l).drop ((fnd l key) + 1))
  else
    (((l).take (fnd l key)) ++ ([(⟨key, v⟩ : ItemV)])) ++ ((l).drop (fnd l key))
theorem rset_spec {w0 w : World} {L : List Asn} {q : Nat} {ad : Option Addr} {c : Nat} (l : List ItemV) (key : ByteArray) (v : ByteArray) (hl : l.length ≤ 1000000000) (hs : St w0 ((Cel q #[.slice ad l.length c] 105) :: (Sl ad c 142 2 ItemV.cells l) :: L) w) : Calls Tryz.prog 71 #[vp q 0, .string key, .string v] w (Ret fun rv w' => ∃ (ad2 : Option Addr) (c2 : Nat), rv = .tuple #[] ∧ St w0 ((Cel q #[.slice ad2 ((rset l key v).length) c2] 105) :: (Sl ad2 c2 142 2 ItemV.cells (rset l key v)) :: L) w') := by
  refine enter (args := [vp q 0, .string key, .string v]) Tryz.func71 rfl Tryz.ntmps71 (Nat.le_of_ble_eq_true (by kernel_rfl)) ?_
  refine GoC.slots (S' := [(0, vp q 0), (1, .string key), (2, .string v)]) rfl ?_
  refine GoC.seq ?_
  refine Xt (.rd 0 (.rd 1 (.ef 2 (.rd 3 (.rd 4 (.rd 5 (.rd 6 (.rd 7 .done)))))))) ?_
  refine Xk [(0, .gen []), (1, .gen [])] [] [(11, .string key), (10, vp q 0), (0, vp q 0), (1, .string key), (2, .string v)] ak0 ?_
  refine Xa (f := 72) (args := #[vp q 0, .string key]) Tryz.call72 (find_spec l key (by first | assumption | omega) hs) ?_
  rintro v3 w4 ⟨rfl, hfl1, hs2⟩
  refine ⟨Xo, ?_⟩
  refine Xk [(3, .gen []), (4, .gen []), (5, .gen []), (6, .gen []), (7, .gen [])] [] [(7, .bool (fis l key)), (6, .int .i64 (fnd l key : Nat)), (0, vp q 0), (1, .string key), (2, .string v)] ak0 ?_
  refine GoR.done (GoQ.thn (GoC.seq ?_))
  refine Xt (.rd 0 .done) ?_
  refine Xk [(0, .gen [])] [] [(8, .slice none 0 0), (7, .bool (fis l key)), (6, .int .i64 (fnd l key : Nat)), (0, vp q 0), (1, .string key), (2, .string v)] ak0 ?_
  refine GoR.done (GoQ.thn (GoC.seq ?_))
  refine Xt (.rd 0 (.rd 1 (.rd 2 (.rd 3 (.rd 4 (.rd 5 (.rd 6 (.ef 7 (.rd 8 (.rd 9 (.rd 10 (.ef 11 (.ef 12 (.rd 13 .done)))))))))))))) ?_
  have hcap5 := Sl.cap (hs2.at_ 1 rfl)
  refine Xk [(0, .gen []), (1, .gen []), (2, .gen []), (3, .gen []), (4, .gen [.slice ad l.length c]), (5, .gen []), (6, .as_ (.slice ad (((l).take (fnd l key)).length) c) (.sub 0 (fnd l key)))] [(4, [.cell ⟨q, 0, none⟩ (.slice ad l.length c)]), (6, [.prop (((fnd l key : Nat) : Int) = (((fnd l key) : Nat) : Int)), .prop (((none : Option Operand) = none → (0 : Nat) = 0) ∧ (some (Operand.tmp 20) = none → ((fnd l key) : Nat) = l.length) ∧ (0 : Nat) ≤ (fnd l key) ∧ ((fnd l key) : Nat) ≤ c), .prop (Value.slice (if c = 0 then ad else (ad : Option Addr).map (fun a => a.add (0 * 2))) ((fnd l key) - 0) (c - 0) = Value.slice ad (((l).take (fnd l key)).length) c)])] [(21, .slice ad (((l).take (fnd l key)).length) c), (15, .slice none 0 0), (8, .slice none 0 0), (7, .bool (fis l key)), (6, .int .i64 (fnd l key : Nat)), (0, vp q 0), (1, .string key), (2, .string v)] (ak (okc (hs2.cell 0 rfl (by kernel_rfl)) ok0) (ak (okp (by omega) (okp ⟨(by first | (intro _; rfl) | (intro hc; cases hc)), (by first | (intro _; rfl) | (intro hc; cases hc)), (by omega), (by omega)⟩ (okp (subSl0 (by simp only [List.length_take, List.length_drop] <;> omega)) ok0))) ak0)) ?_
  have hs8 : St w0 ((Sl none 0 142 2 ItemV.cells ([] : List ItemV)) :: (Cel q #[.slice ad l.length c] 105) :: (Sl ad c 142 2 ItemV.cells l) :: L) w4 := St.slNil hs2 142 2 ItemV.cells
  refine GoR.append rfl (by kernel_rfl) itemsOK itemF (ad := none) (c := 0) (xs := ([] : List ItemV)) (ys := (l).take (fnd l key)) (adx := ad) (cx := c) dItem (by kernel_rfl) hs8 (RowsAt.takeL (hs8.rows 2 rfl (itemF).size dItem) _ (by omega)) (hs8.slNone 2 rfl) (by simp only [List.length_append, List.length_take, List.length_drop, List.length_cons, List.length_nil]; omega) (by simp only [List.length_append, List.length_take, List.length_drop, List.length_cons, List.length_nil]; omega) ?_
  intro ad9 c10 w6 hs7
  refine ⟨Xo, ?_⟩
  refine Xk [(8, .gen []), (9, .gen []), (10, .gen [])] [] [(25, .agg #[.string key, .string v]), (22, .slice ad9 (((l).take (fnd l key)).length) c10), (8, .slice none 0 0), (7, .bool (fis l key)), (6, .int .i64 (fnd l key : Nat)), (0, vp q 0)] ak0 ?_
  refine GoR.sliceLit rfl (by kernel_rfl) (t := 103) (e := 142) (n := 1) (ps := [(0, .agg #[.string key, .string v])]) (by kernel_rfl) (by kernel_rfl) (ti := Tryz.t142) (z := .agg #[.string (⟨#[]⟩ : ByteArray), .string (⟨#[]⟩ : ByteArray)]) (by kernel_rfl) (by kernel_rfl) (by decide) (by decide) (cs := #[.string key, .string v]) (by kernel_rfl) hs7 ?_
  intro b11 w12 hs13 hz14
  have hs15 : St w0 ((Sl (some ⟨b11, 0, none⟩) 1 142 2 ItemV.cells ([(⟨key, v⟩ : ItemV)])) :: (Sl ad9 c10 142 2 ItemV.cells ((l).take (fnd l key))) :: (Cel q #[.slice ad l.length c] 105) :: (Sl ad c 142 2 ItemV.cells l) :: L) w12 := St.slOf (l := [(⟨key, v⟩ : ItemV)]) (f := ItemV.cells) hs13 hz14 (itemF).size (by simp only [List.length_cons, List.length_nil, maxLen]; omega) (by kernel_rfl)
  refine ⟨Xo, ?_⟩
  have hs18 : St w0 ((Sl ad9 c10 142 2 ItemV.cells ((l).take (fnd l key))) :: (Sl (some ⟨b11, 0, none⟩) 1 142 2 ItemV.cells ([(⟨key, v⟩ : ItemV)])) :: (Cel q #[.slice ad l.length c] 105) :: (Sl ad c 142 2 ItemV.cells l) :: L) w12 := (hs15.pull 1 rfl)
  refine GoR.append rfl (by kernel_rfl) itemsOK itemF (ad := ad9) (c := c10) (xs := (l).take (fnd l key)) (ys := [(⟨key, v⟩ : ItemV)]) (adx := some ⟨b11, 0, none⟩) (cx := 1) dItem (by kernel_rfl) hs18 (hs18.rows 1 rfl (itemF).size dItem) (fun h => nomatch h) (by simp only [List.length_append, List.length_take, List.length_drop, List.length_cons, List.length_nil]; omega) (by simp only [List.length_append, List.length_take, List.length_drop, List.length_cons, List.length_nil]; omega) ?_
  intro ad19 c20 w16 hs17
  refine ⟨Xo, ?_⟩
  refine Xk [(13, .gen [])] [] [(8, .slice ad19 ((((l).take (fnd l key)) ++ ([(⟨key, v⟩ : ItemV)])).length) c20), (7, .bool (fis l key)), (6, .int .i64 (fnd l key : Nat)), (0, vp q 0)] ak0 ?_
  refine GoR.done (GoQ.thn (GoC.seq (GoC.seq ?_)))
  refine Xt (.rd 0 .done) ?_
  refine Xk [(0, .gen [])] [] [(28, .bool (fis l key)), (8, .slice ad19 ((((l).take (fnd l key)) ++ ([(⟨key, v⟩ : ItemV)])).length) c20), (6, .int .i64 (fnd l key : Nat)), (0, vp q 0)] ak0 ?_
  refine GoR.done (GoQ.thn ?_)
  refine Xc (t := fis l key) (fun h21 => ?_) (fun h21 => ?_)
  · have hlt := fis_lt h21
    refine Xt (.rd 0 (.rd 1 (.rd 2 .done))) ?_
    refine Xk [(0, .gen []), (1, .as_ (.int .i64 ((fnd l key : Nat) + 1)) (.gen [])), (2, .gen [])] [(1, [.prop (Value.int .i64 (IntKind.i64.wrap ((fnd l key : Nat) + 1)) = Value.int .i64 ((fnd l key : Nat) + 1))])] [(6, .int .i64 ((fnd l key : Nat) + 1)), (8, .slice ad19 ((((l).take (fnd l key)) ++ ([(⟨key, v⟩ : ItemV)])).length) c20), (0, vp q 0)] (ak (okp (i64ok (by omega) (by omega)) ok0) ak0) ?_
    refine GoR.done (GoQ.thn ?_)
    refine Xt (.rd 0 (.rd 1 (.rd 2 (.rd 3 (.rd 4 (.rd 5 (.rd 6 (.rd 7 (.ef 8 (.rd 9 (.rd 10 (.ef 11 .done)))))))))))) ?_
    have hcap22 := Sl.cap (hs17.at_ 3 rfl)
    refine Xk [(0, .gen []), (1, .gen []), (2, .gen []), (3, .gen []), (4, .gen []), (5, .gen [.slice ad l.length c]), (6, .gen []), (7, .as_ (.slice (subAd ad c ((fnd l key) + 1) 2) (((l).drop ((fnd l key) + 1)).length) (c - ((fnd l key) + 1))) (.sub ((fnd l key) + 1) l.length))] [(5, [.cell ⟨q, 0, none⟩ (.slice ad l.length c)]), (7, [.prop (((fnd l key : Nat) + 1 : Int) = (((fnd l key) + 1 : Nat) : Int)), .prop ((some (Operand.tmp 37) = none → ((fnd l key) + 1 : Nat) = 0) ∧ ((none : Option Operand) = none → (l.length : Nat) = l.length) ∧ ((fnd l key) + 1 : Nat) ≤ l.length ∧ (l.length : Nat) ≤ c), .prop (Value.slice (if c = ((fnd l key) + 1) then ad else (ad : Option Addr).map (fun a => a.add (((fnd l key) + 1) * 2))) (l.length - ((fnd l key) + 1)) (c - ((fnd l key) + 1)) = Value.slice (subAd ad c ((fnd l key) + 1) 2) (((l).drop ((fnd l key) + 1)).length) (c - ((fnd l key) + 1)))])] [(38, .slice (subAd ad c ((fnd l key) + 1) 2) (((l).drop ((fnd l key) + 1)).length) (c - ((fnd l key) + 1))), (32, .slice ad19 ((((l).take (fnd l key)) ++ ([(⟨key, v⟩ : ItemV)])).length) c20), (31, vp q 0)] (ak (okc (hs17.cell 2 rfl (by kernel_rfl)) ok0) (ak (okp (by omega) (okp ⟨(by first | (intro _; rfl) | (intro hc; cases hc)), (by first | (intro _; rfl) | (intro hc; cases hc)), (by omega), (by omega)⟩ (okp (subSl (by simp only [List.length_take, List.length_drop] <;> omega)) ok0))) ak0)) ?_
    refine GoR.append rfl (by kernel_rfl) itemsOK itemF (ad := ad19) (c := c20) (xs := ((l).take (fnd l key)) ++ ([(⟨key, v⟩ : ItemV)])) (ys := (l).drop ((fnd l key) + 1)) (adx := subAd ad c ((fnd l key) + 1) 2) (cx := (c - ((fnd l key) + 1))) dItem (by kernel_rfl) hs17 (RowsAt.dropL (hs17.rows 3 rfl (itemF).size dItem) (by omega) (by omega)) (subAd_none (hs17.slNone 3 rfl)) (by simp only [List.length_append, List.length_take, List.length_drop, List.length_cons, List.length_nil]; omega) (by simp only [List.length_append, List.length_take, List.length_drop, List.length_cons, List.length_nil]; omega) ?_
    intro ad25 c26 w23 hs24
    refine ⟨Xo, ?_⟩
    refine Xk [(9, .gen []), (10, .gen [])] [] [(41, vp q 0), (39, .slice ad25 (((((l).take (fnd l key)) ++ ([(⟨key, v⟩ : ItemV)])) ++ ((l).drop ((fnd l key) + 1))).length) c26)] ak0 ?_
    refine GoR.store rfl rfl (by kernel_rfl) (b := q) (off := 0) (v := .slice ad25 (((((l).take (fnd l key)) ++ ([(⟨key, v⟩ : ItemV)])) ++ ((l).drop ((fnd l key) + 1))).length) c26) (by kernel_rfl) (by kernel_rfl) (ti := Tryz.t103) (by kernel_rfl) hs24 2 rfl (by kernel_rfl) (by kernel_rfl) (Nat.le_of_ble_eq_true (by kernel_rfl)) (cs' := #[.slice ad25 (((((l).take (fnd l key)) ++ ([(⟨key, v⟩ : ItemV)])) ++ ((l).drop ((fnd l key) + 1))).length) c26]) (L' := (Sl ad25 c26 142 2 ItemV.cells ((((l).take (fnd l key)) ++ ([(⟨key, v⟩ : ItemV)])) ++ ((l).drop ((fnd l key) + 1)))) :: (Sl (some ⟨b11, 0, none⟩) 1 142 2 ItemV.cells ([(⟨key, v⟩ : ItemV)])) :: (Cel q #[.slice ad25 (((((l).take (fnd l key)) ++ ([(⟨key, v⟩ : ItemV)])) ++ ((l).drop ((fnd l key) + 1))).length) c26] 105) :: (Sl ad c 142 2 ItemV.cells l) :: L) (by kernel_rfl) rfl ?_
    intro w27 hs28
    refine ⟨Xo, ?_⟩
    refine GoR.done ?_
    refine GoQ.done (.inr rfl) (fun a hf => results0 rfl a hf) ?_
    have hr : rset l key v = (((l).take (fnd l key)) ++ ([(⟨key, v⟩ : ItemV)])) ++ ((l).drop ((fnd l key) + 1)) := by rw [rset, if_pos h21]
    have hs29 : St w0 ((Sl (some ⟨b11, 0, none⟩) 1 142 2 ItemV.cells ([(⟨key, v⟩ : ItemV)])) :: (Sl ad c 142 2 ItemV.cells l) :: (Cel q #[.slice ad25 (((((l).take (fnd l key)) ++ ([(⟨key, v⟩ : ItemV)])) ++ ((l).drop ((fnd l key) + 1))).length) c26] 105) :: (Sl ad25 c26 142 2 ItemV.cells ((((l).take (fnd l key)) ++ ([(⟨key, v⟩ : ItemV)])) ++ ((l).drop ((fnd l key) + 1)))) :: L) w27 := ((((hs28.pull 0 rfl).pull 2 rfl).pull 3 rfl).pull 3 rfl)
    have hs30 : St w0 ((Cel q #[.slice ad25 (((((l).take (fnd l key)) ++ ([(⟨key, v⟩ : ItemV)])) ++ ((l).drop ((fnd l key) + 1))).length) c26] 105) :: (Sl ad25 c26 142 2 ItemV.cells ((((l).take (fnd l key)) ++ ([(⟨key, v⟩ : ItemV)])) ++ ((l).drop ((fnd l key) + 1)))) :: L) w27 := hs29.drop 2
    exact ⟨ad25, c26, (by first | rfl | (rw [hr]; done) | (rw [hr]; rfl)), (by first | exact hs30 | (rw [hr]; exact hs30))⟩
  · refine GoC.skip (GoQ.thn ?_)
    refine Xt (.rd 0 (.rd 1 (.rd 2 (.rd 3 (.rd 4 (.rd 5 (.rd 6 (.rd 7 (.ef 8 (.rd 9 (.rd 10 (.ef 11 .done)))))))))))) ?_
    have hcap31 := Sl.cap (hs17.at_ 3 rfl)
    refine Xk [(0, .gen []), (1, .gen []), (2, .gen []), (3, .gen []), (4, .gen []), (5, .gen [.slice ad l.length c]), (6, .gen []), (7, .as_ (.slice (subAd ad c (fnd l key) 2) (((l).drop (fnd l key)).length) (c - (fnd l key))) (.sub (fnd l key) l.length))] [(5, [.cell ⟨q, 0, none⟩ (.slice ad l.length c)]), (7, [.prop (((fnd l key : Nat) : Int) = (((fnd l key) : Nat) : Int)), .prop ((some (Operand.tmp 37) = none → ((fnd l key) : Nat) = 0) ∧ ((none : Option Operand) = none → (l.length : Nat) = l.length) ∧ ((fnd l key) : Nat) ≤ l.length ∧ (l.length : Nat) ≤ c), .prop (Value.slice (if c = (fnd l key) then ad else (ad : Option Addr).map (fun a => a.add ((fnd l key) * 2))) (l.length - (fnd l key)) (c - (fnd l key)) = Value.slice (subAd ad c (fnd l key) 2) (((l).drop (fnd l key)).length) (c - (fnd l key)))])] [(38, .slice (subAd ad c (fnd l key) 2) (((l).drop (fnd l key)).length) (c - (fnd l key))), (32, .slice ad19 ((((l).take (fnd l key)) ++ ([(⟨key, v⟩ : ItemV)])).length) c20), (31, vp q 0)] (ak (okc (hs17.cell 2 rfl (by kernel_rfl)) ok0) (ak (okp (by omega) (okp ⟨(by first | (intro _; rfl) | (intro hc; cases hc)), (by first | (intro _; rfl) | (intro hc; cases hc)), (by omega), (by omega)⟩ (okp (subSl (by simp only [List.length_take, List.length_drop] <;> omega)) ok0))) ak0)) ?_
    refine GoR.append rfl (by kernel_rfl) itemsOK itemF (ad := ad19) (c := c20) (xs := ((l).take (fnd l key)) ++ ([(⟨key, v⟩ : ItemV)])) (ys := (l).drop (fnd l key)) (adx := subAd ad c (fnd l key) 2) (cx := (c - (fnd l key))) dItem (by kernel_rfl) hs17 (RowsAt.dropL (hs17.rows 3 rfl (itemF).size dItem) (by omega) (by omega)) (subAd_none (hs17.slNone 3 rfl)) (by simp only [List.length_append, List.length_take, List.length_drop, List.length_cons, List.length_nil]; omega) (by simp only [List.length_append, List.length_take, List.length_drop, List.length_cons, List.length_nil]; omega) ?_
    intro ad34 c35 w32 hs33
    refine ⟨Xo, ?_⟩
    refine Xk [(9, .gen []), (10, .gen [])] [] [(41, vp q 0), (39, .slice ad34 (((((l).take (fnd l key)) ++ ([(⟨key, v⟩ : ItemV)])) ++ ((l).drop (fnd l key))).length) c35)] ak0 ?_
    refine GoR.store rfl rfl (by kernel_rfl) (b := q) (off := 0) (v := .slice ad34 (((((l).take (fnd l key)) ++ ([(⟨key, v⟩ : ItemV)])) ++ ((l).drop (fnd l key))).length) c35) (by kernel_rfl) (by kernel_rfl) (ti := Tryz.t103) (by kernel_rfl) hs33 2 rfl (by kernel_rfl) (by kernel_rfl) (Nat.le_of_ble_eq_true (by kernel_rfl)) (cs' := #[.slice ad34 (((((l).take (fnd l key)) ++ ([(⟨key, v⟩ : ItemV)])) ++ ((l).drop (fnd l key))).length) c35]) (L' := (Sl ad34 c35 142 2 ItemV.cells ((((l).take (fnd l key)) ++ ([(⟨key, v⟩ : ItemV)])) ++ ((l).drop (fnd l key)))) :: (Sl (some ⟨b11, 0, none⟩) 1 142 2 ItemV.cells ([(⟨key, v⟩ : ItemV)])) :: (Cel q #[.slice ad34 (((((l).take (fnd l key)) ++ ([(⟨key, v⟩ : ItemV)])) ++ ((l).drop (fnd l key))).length) c35] 105) :: (Sl ad c 142 2 ItemV.cells l) :: L) (by kernel_rfl) rfl ?_
    intro w36 hs37
    refine ⟨Xo, ?_⟩
    refine GoR.done ?_
    refine GoQ.done (.inr rfl) (fun a hf => results0 rfl a hf) ?_
    have hr : rset l key v = (((l).take (fnd l key)) ++ ([(⟨key, v⟩ : ItemV)])) ++ ((l).drop (fnd l key)) := by rw [rset, if_neg (ne_true_of_eq_false h21)]
    have hs38 : St w0 ((Sl (some ⟨b11, 0, none⟩) 1 142 2 ItemV.cells ([(⟨key, v⟩ : ItemV)])) :: (Sl ad c 142 2 ItemV.cells l) :: (Cel q #[.slice ad34 (((((l).take (fnd l key)) ++ ([(⟨key, v⟩ : ItemV)])) ++ ((l).drop (fnd l key))).length) c35] 105) :: (Sl ad34 c35 142 2 ItemV.cells ((((l).take (fnd l key)) ++ ([(⟨key, v⟩ : ItemV)])) ++ ((l).drop (fnd l key)))) :: L) w36 := ((((hs37.pull 0 rfl).pull 2 rfl).pull 3 rfl).pull 3 rfl)
    have hs39 : St w0 ((Cel q #[.slice ad34 (((((l).take (fnd l key)) ++ ([(⟨key, v⟩ : ItemV)])) ++ ((l).drop (fnd l key))).length) c35] 105) :: (Sl ad34 c35 142 2 ItemV.cells ((((l).take (fnd l key)) ++ ([(⟨key, v⟩ : ItemV)])) ++ ((l).drop (fnd l key)))) :: L) w36 := hs38.drop 2
    exact ⟨ad34, c35, (by first | rfl | (rw [hr]; done) | (rw [hr]; rfl)), (by first | exact hs39 | (rw [hr]; exact hs39))⟩
end Go.Proofs.YtbmmknchcdhefaaGreatDoor
