/-
  strconv.FormatUint at base 10; package ledger: number.
-/
import Derived.Test.YtbmmknchcdhefaaGreatDoorSxT
import Derived.Test.YtbmmknchcdhefaaGreatDoorProg
import Derived.Test.YtbmmknchcdhefaaGreatDoorLedL
namespace Go.Proofs.YtbmmknchcdhefaaGreatDoor
open Go.RowKit Go.Sx
set_option linter.unusedVariables false
set_option linter.unusedSimpArgs false
set_option linter.unnecessarySimpa false
set_option maxRecDepth 100000
theorem ifmt_spec {w0 w : World} {L : List Asn} (n : Int) (hn0 : 0 ≤ n) (hn1 : n < 18446744073709551616) (hL : ∀ w, St w0 L w → Laid w) (hs : St w0 L w) : Calls Tryz.prog 92 #[.int .u64 n, .int .i64 10] w (Ret fun rv w' => rv = .string (dec n) ∧ St w0 L w') := by
  refine enter (args := [.int .u64 n, .int .i64 10]) Tryz.func92 rfl Tryz.ntmps92 (Nat.le_of_ble_eq_true (by kernel_rfl)) ?_
  refine GoC.slots (S' := [(0, .int .u64 n), (1, .int .i64 10)]) rfl ?_
  refine GoC.seq ?_
  refine Xt (.rd 0 .done) ?_
  refine Xk [(0, .gen [])] [] [(4, .string (⟨#[]⟩ : ByteArray)), (0, .int .u64 n), (1, .int .i64 10)] ak0 ?_
  refine GoR.done (GoQ.thn (GoC.seq (GoC.seq ?_)))
  refine Xt (.rd 0 (.rd 1 .done)) ?_
  refine Xk [(0, .gen []), (1, .gen [])] [] [(10, .bool true), (4, .string (⟨#[]⟩ : ByteArray)), (0, .int .u64 n), (1, .int .i64 10)] ak0 ?_
  refine GoR.done (GoQ.thn (XT (GoC.seq (GoC.seq ?_))))
  refine Xt (.rd 0 (.rd 1 .done)) ?_
  refine Xk [(0, .gen []), (1, .gen [])] [] [(12, .bool (decide ((n : Int) < 100))), (4, .string (⟨#[]⟩ : ByteArray)), (0, .int .u64 n), (1, .int .i64 10)] ak0 ?_
  refine GoR.done (GoQ.thn ?_)
  refine Xc (t := decide ((n : Int) < 100)) (fun h1 => ?_) (fun h1 => ?_)
  · have h1' : (n : Int) < 100 := of_decide_eq_true h1
    have hz := dec_size n hn0 hn1
    refine GoC.seq ?_
    refine Xt (.rd 0 (.rd 1 (.ef 2 (.rd 3 .done)))) ?_
    refine Xk [(0, .gen []), (1, .as_ (.int .i64 n) (.gen []))] [(1, [.prop (Value.int .i64 (IntKind.i64.wrap n) = Value.int .i64 n)])] [(14, .int .i64 n), (4, .string (⟨#[]⟩ : ByteArray)), (0, .int .u64 n), (1, .int .i64 10)] (ak (okp (i64ok (by omega) (by omega)) ok0) ak0) ?_
    refine Xa (f := 95) (args := #[.int .i64 n]) Tryz.call95 (small_spec n (by omega) (by omega) hs) ?_
    rintro v3 w4 ⟨rfl, hs2⟩
    refine ⟨Xo, ?_⟩
    refine Xk [(3, .gen [])] [] [(4, .string (dec n)), (0, .int .u64 n), (1, .int .i64 10)] ak0 ?_
    refine GoR.done (GoQ.thn (GoC.ret (GoQ.skipCR (GoQ.skipCR ?_))))
    refine X1 (v := .string (dec n)) ?_
    exact ⟨rfl, hs2.drop 0⟩
  · have h1' : ¬ ((n : Int) < 100) := of_decide_eq_false h1
    have hz := dec_size n hn0 hn1
    refine GoC.skip (GoQ.thn (GoC.seq ?_))
    refine Xt (.ef 0 .done) ?_
    refine GoR.alloc rfl rfl (by kernel_rfl) (z := .agg #[.int .u8 0, .int .u8 0, .int .u8 0, .int .u8 0, .int .u8 0, .int .u8 0, .int .u8 0, .int .u8 0, .int .u8 0, .int .u8 0, .int .u8 0, .int .u8 0, .int .u8 0, .int .u8 0, .int .u8 0, .int .u8 0, .int .u8 0, .int .u8 0, .int .u8 0, .int .u8 0, .int .u8 0, .int .u8 0, .int .u8 0, .int .u8 0]) (by kernel_rfl) hs (cs := #[.int .u8 0, .int .u8 0, .int .u8 0, .int .u8 0, .int .u8 0, .int .u8 0, .int .u8 0, .int .u8 0, .int .u8 0, .int .u8 0, .int .u8 0, .int .u8 0, .int .u8 0, .int .u8 0, .int .u8 0, .int .u8 0, .int .u8 0, .int .u8 0, .int .u8 0, .int .u8 0, .int .u8 0, .int .u8 0, .int .u8 0, .int .u8 0]) (by kernel_rfl) ?_
    intro b5 w6 hs7
    refine ⟨Xo, ?_⟩
    refine GoR.done (GoQ.thn (GoC.seq ?_))
    refine Xt (.rd 0 (.ef 1 (.rd 2 .done))) ?_
    refine Xk [(0, .gen [])] [] [(16, .int .u64 n), (5, vp b5 0), (4, .string (⟨#[]⟩ : ByteArray)), (0, .int .u64 n), (1, .int .i64 10)] ak0 ?_
    refine Xa (f := 96) (args := #[.int .u64 n]) Tryz.call96 (numDigits_spec n (by omega) (by omega) (fun w h => hL w (h.drop 1)) hs7) ?_
    rintro v9 w10 ⟨rfl, hs8⟩
    refine ⟨Xo, ?_⟩
    refine Xk [(2, .gen [])] [] [(6, .int .i64 ((dec n).size : Nat)), (5, vp b5 0), (4, .string (⟨#[]⟩ : ByteArray)), (0, .int .u64 n), (1, .int .i64 10)] ak0 ?_
    refine GoR.done (GoQ.thn (GoC.seq ?_))
    refine Xt (.rd 0 (.rd 1 (.rd 2 (.ef 3 .done)))) ?_
    refine Xk [(0, .gen []), (1, .as_ (vl b5 0 ((dec n).size) 24) (.sub 0 ((dec n).size))), (2, .gen [])] [(1, [.prop ((((dec n).size : Nat) : Int) = ((((dec n).size) : Nat) : Int)), .prop ((((none : Option Operand)) = none → (0 : Nat) = 0) ∧ ((some (Operand.tmp 18)) = none → (((dec n).size) : Nat) = 24) ∧ (0 : Nat) ≤ ((dec n).size) ∧ (((dec n).size) : Nat) ≤ 24), .prop (Value.slice (some (if 24 = 0 then Addr.mk b5 0 none else (Addr.mk b5 0 none).add (0 * 1))) (((dec n).size) - 0) (24 - 0) = Value.slice (some ⟨b5, 0, none⟩) ((dec n).size) 24)])] [(20, .int .u64 n), (19, vl b5 0 ((dec n).size) 24), (6, .int .i64 ((dec n).size : Nat)), (5, vp b5 0), (4, .string (⟨#[]⟩ : ByteArray)), (0, .int .u64 n), (1, .int .i64 10)] (ak (okp (by omega) (okp ⟨(by first | (intro _; rfl) | (intro hc; cases hc)), (by first | (intro _; rfl) | (intro hc; cases hc)), (by omega), (by omega)⟩ (okp (subArr0 _ _ _ _ _ (by decide)) ok0))) ak0) ?_
    have hs11 : St w0 ((Cel b5 (Array.replicate 24 (.int .u8 0)) 154) :: L) w10 := Eq.mp (by kernel_rfl) hs8
    refine Xa (f := 97) (args := #[vl b5 0 ((dec n).size) 24, .int .u64 n]) Tryz.call97 (format_spec 24 (by decide) n (by omega) (by omega) hs11) ?_
    rintro v15 w16 ⟨rfl, cs13, hb14, hs12⟩
    refine ⟨Xo, ?_⟩
    refine GoR.done (GoQ.thn (GoC.seq ?_))
    refine Xt (.rd 0 (.rd 1 (.rd 2 (.rd 3 .done)))) ?_
    refine Xk [(0, .gen []), (1, .as_ (vl b5 0 ((dec n).size) 24) (.sub 0 ((dec n).size)))] [(1, [.prop ((((dec n).size : Nat) : Int) = ((((dec n).size) : Nat) : Int)), .prop ((((none : Option Operand)) = none → (0 : Nat) = 0) ∧ ((some (Operand.tmp 22)) = none → (((dec n).size) : Nat) = 24) ∧ (0 : Nat) ≤ ((dec n).size) ∧ (((dec n).size) : Nat) ≤ 24), .prop (Value.slice (some (if 24 = 0 then Addr.mk b5 0 none else (Addr.mk b5 0 none).add (0 * 1))) (((dec n).size) - 0) (24 - 0) = Value.slice (some ⟨b5, 0, none⟩) ((dec n).size) 24)])] [(23, vl b5 0 ((dec n).size) 24), (4, .string (⟨#[]⟩ : ByteArray)), (0, .int .u64 n), (1, .int .i64 10)] (ak (okp (by omega) (okp ⟨(by first | (intro _; rfl) | (intro hc; cases hc)), (by first | (intro _; rfl) | (intro hc; cases hc)), (by omega), (by omega)⟩ (okp (subArr0 _ _ _ _ _ (by decide)) ok0))) ak0) ?_
    refine GoR.bytesStr rfl (by kernel_rfl) (src := 146) (dst := 9) (e := 5) (b := b5) (off := 0) (cap := 24) (q := Lib.decDigits (Int.toNat n)) (by kernel_rfl) (by kernel_rfl) (by kernel_rfl) (by kernel_rfl) hb14 ?_
    refine Xk [(3, .gen [])] [] [(4, .string (⟨(Lib.decDigits (Int.toNat n)).toArray⟩ : ByteArray)), (0, .int .u64 n), (1, .int .i64 10)] ak0 ?_
    refine GoR.done (GoQ.thn (GoC.ret (GoQ.skipCR ?_)))
    refine X1 (v := .string (⟨(Lib.decDigits (Int.toNat n)).toArray⟩ : ByteArray)) ?_
    exact ⟨rfl, hs12.drop 1⟩
theorem fmtu_spec {w0 w : World} {L : List Asn} (n : Int) (hn0 : 0 ≤ n) (hn1 : n < 18446744073709551616) (hL : ∀ w, St w0 L w → Laid w) (hs : St w0 L w) : Calls Tryz.prog 90 #[.int .u64 n, .int .i64 10] w (Ret fun rv w' => rv = .string (dec n) ∧ St w0 L w') := by
  refine enter (args := [.int .u64 n, .int .i64 10]) Tryz.func90 rfl Tryz.ntmps90 (Nat.le_of_ble_eq_true (by kernel_rfl)) ?_
  refine GoC.slots (S' := [(0, .int .u64 n), (1, .int .i64 10)]) rfl ?_
  refine GoC.seq ?_
  refine Xt (.rd 0 .done) ?_
  refine Xk [(0, .gen [])] [] [(4, .string (⟨#[]⟩ : ByteArray)), (0, .int .u64 n), (1, .int .i64 10)] ak0 ?_
  refine GoR.done (GoQ.thn (GoC.seq ?_))
  refine Xt (.rd 0 (.rd 1 (.ef 2 (.rd 3 .done)))) ?_
  refine Xk [(0, .gen []), (1, .gen [])] [] [(6, .int .i64 10), (5, .int .u64 n), (4, .string (⟨#[]⟩ : ByteArray))] ak0 ?_
  refine Xa (f := 92) (args := #[.int .u64 n, .int .i64 10]) Tryz.call92 (ifmt_spec n (by omega) (by omega) (fun w h => hL w (h.drop 0)) hs) ?_
  rintro v2 w3 ⟨rfl, hs1⟩
  refine ⟨Xo, ?_⟩
  refine Xk [(3, .gen [])] [] [(4, .string (dec n))] ak0 ?_
  refine GoR.done (GoQ.thn (GoC.ret ?_))
  refine X1 (v := .string (dec n)) ?_
  exact ⟨rfl, hs1.drop 0⟩
def number (s : ByteArray) : Int × Bool :=
  if ((pu s).2) = true then
    if (decide (((s.size : Nat) : Int) ≤ 16)) = true then
      if (decide (((pu s).1 : Int) ≤ 1125899906842624)) = true then
        (((pu s).1), (decide ((dec ((pu s).1)) = s)))
      else
        (((pu s).1), false)
    else
      (((pu s).1), false)
  else
    (((pu s).1), false)
theorem number_spec {w0 w : World} {L : List Asn} (s : ByteArray) (hlen : s.size ≤ 281474976710656) (hL : ∀ w, St w0 L w → Laid w) (hs : St w0 L w) : Calls Tryz.prog 89 #[.string s] w (Ret fun rv w' => rv = .tuple #[.int .u64 ((number s).1), .bool ((number s).2)] ∧ St w0 L w') := by
  refine enter (args := [.string s]) Tryz.func89 rfl Tryz.ntmps89 (Nat.le_of_ble_eq_true (by kernel_rfl)) ?_
  refine GoC.slots (S' := [(0, .string s)]) rfl ?_
  refine GoC.seq ?_
  refine Xt (.rd 0 (.rd 1 .done)) ?_
  refine Xk [(0, .gen []), (1, .gen [])] [] [(3, .bool false), (2, .int .u64 0), (0, .string s)] ak0 ?_
  refine GoR.done (GoQ.thn (GoC.seq ?_))
  refine Xt (.rd 0 (.ef 1 (.rd 2 (.rd 3 (.rd 4 (.rd 5 (.rd 6 .done))))))) ?_
  refine Xk [(0, .gen [])] [] [(7, .string s), (3, .bool false), (2, .int .u64 0), (0, .string s)] ak0 ?_
  refine Xa (f := 91) (args := #[.string s, .int .i64 10, .int .i64 64]) Tryz.call91 (parse_spec s hlen (fun w h => hL w (h.drop 0)) hs) ?_
  rintro v5 w6 ⟨⟨_, rfl, (⟨hp2, rfl⟩ | ⟨hp2, t3, p4, rfl⟩)⟩, hs1⟩
  · have hrhp2 := pu_range s
    refine ⟨Xo, ?_⟩
    refine Xk [(2, .gen []), (3, .gen []), (4, .gen []), (5, .gen []), (6, .gen [])] [] [(5, .nilIface), (4, .int .u64 ((pu s).1)), (3, .bool false), (2, .int .u64 0), (0, .string s)] ak0 ?_
    refine GoR.done (GoQ.thn (GoC.seq ?_))
    refine Xt (.rd 0 (.rd 1 (.rd 2 (.rd 3 (.rd 4 (.rd 5 (.rd 6 (.rd 7 (.rd 8 (.rd 9 (.rd 10 (.rd 11 (.rd 12 (.rd 13 (.ef 14 (.rd 15 (.rd 16 (.rd 17 (.rd 18 (.rd 19 .done)))))))))))))))))))) ?_
    refine Xk [(0, .gen []), (1, .gen []), (2, .gen []), (3, .gen []), (4, .gen []), (5, .gen []), (6, .gen []), (7, .gen []), (8, .gen [])] [] [(19, .bool (decide (((s.size : Nat) : Int) ≤ 16))), (11, .int .u64 ((pu s).1)), (4, .int .u64 ((pu s).1)), (3, .bool false), (2, .int .u64 0), (0, .string s)] ak0 ?_
    rcases Bool.eq_false_or_eq_true (decide (((s.size : Nat) : Int) ≤ 16)) with h7 | h7
    · refine Xs 19 true h7 ?_
      have h7' : ((s.size : Nat) : Int) ≤ 16 := of_decide_eq_true h7
      refine Xk [(9, .gen []), (10, .gen []), (11, .gen []), (12, .gen [])] [] [(23, .bool (decide (((pu s).1 : Int) ≤ 1125899906842624))), (11, .int .u64 ((pu s).1)), (4, .int .u64 ((pu s).1)), (3, .bool false), (2, .int .u64 0), (0, .string s)] ak0 ?_
      rcases Bool.eq_false_or_eq_true (decide (((pu s).1 : Int) ≤ 1125899906842624)) with h8 | h8
      · refine Xs 23 true h8 ?_
        have h8' : ((pu s).1 : Int) ≤ 1125899906842624 := of_decide_eq_true h8
        refine Xk [(13, .gen [])] [] [(24, .int .u64 ((pu s).1)), (23, .bool true), (11, .int .u64 ((pu s).1)), (3, .bool false), (2, .int .u64 0), (0, .string s)] ak0 ?_
        refine Xa (f := 90) (args := #[.int .u64 ((pu s).1), .int .i64 10]) Tryz.call90 (fmtu_spec ((pu s).1) (by omega) (by omega) (fun w h => hL w (h.drop 0)) hs1) ?_
        rintro v10 w11 ⟨rfl, hs9⟩
        refine ⟨Xo, ?_⟩
        refine Xk [(15, .gen []), (16, .as_ (.bool (decide ((dec ((pu s).1)) = s))) (.gen [])), (17, .gen []), (18, .gen []), (19, .gen [])] [(16, [.prop (Value.bool ((dec ((pu s).1)).toList == s.toList) = Value.bool (decide ((dec ((pu s).1)) = s)))])] [(3, .bool (decide ((dec ((pu s).1)) = s))), (2, .int .u64 ((pu s).1))] (ak (okp (seq _ _) ok0) ak0) ?_
        refine GoR.done (GoQ.thn (GoC.ret ?_))
        refine X2 (v := .int .u64 ((pu s).1)) (v' := .bool (decide ((dec ((pu s).1)) = s))) ?_
        have hr : number s = (((pu s).1), (decide ((dec ((pu s).1)) = s))) := by rw [number, if_pos hp2, if_pos h7, if_pos h8]
        exact ⟨by first | (rw [hr]; done) | (rw [hr]; rfl), hs9.drop 0⟩
      · refine Xs 23 false h8 ?_
        have h8' : ¬ (((pu s).1 : Int) ≤ 1125899906842624) := of_decide_eq_false h8
        refine Xk [(13, .gen [])] [] [(24, undef), (23, .bool false), (11, .int .u64 ((pu s).1)), (3, .bool false), (2, .int .u64 0), (0, .string s)] ak0 ?_
        refine GoR.skip rfl (by kernel_rfl) Xo ?_
        refine Xk [(15, .gen []), (16, .gen []), (17, .gen []), (18, .gen []), (19, .gen [])] [] [(3, .bool false), (2, .int .u64 ((pu s).1))] ak0 ?_
        refine GoR.done (GoQ.thn (GoC.ret ?_))
        refine X2 (v := .int .u64 ((pu s).1)) (v' := .bool false) ?_
        have hr : number s = (((pu s).1), false) := by rw [number, if_pos hp2, if_pos h7, if_neg (ne_true_of_eq_false h8)]
        exact ⟨by first | (rw [hr]; done) | (rw [hr]; rfl), hs1.drop 0⟩
    · refine Xs 19 false h7 ?_
      have h7' : ¬ (((s.size : Nat) : Int) ≤ 16) := of_decide_eq_false h7
      refine Xk [(9, .gen []), (10, .gen []), (11, .gen []), (12, .gen []), (13, .gen [])] [] [(24, undef), (23, .bool false), (11, .int .u64 ((pu s).1)), (3, .bool false), (2, .int .u64 0), (0, .string s)] ak0 ?_
      refine GoR.skip rfl (by kernel_rfl) Xo ?_
      refine Xk [(15, .gen []), (16, .gen []), (17, .gen []), (18, .gen []), (19, .gen [])] [] [(3, .bool false), (2, .int .u64 ((pu s).1))] ak0 ?_
      refine GoR.done (GoQ.thn (GoC.ret ?_))
      refine X2 (v := .int .u64 ((pu s).1)) (v' := .bool false) ?_
      have hr : number s = (((pu s).1), false) := by rw [number, if_pos hp2, if_neg (ne_true_of_eq_false h7)]
      exact ⟨by first | (rw [hr]; done) | (rw [hr]; rfl), hs1.drop 0⟩
  · have hrhp2 := pu_range s
    refine ⟨Xo, ?_⟩
    refine Xk [(2, .gen []), (3, .gen []), (4, .gen []), (5, .gen []), (6, .gen [])] [] [(5, .iface t3 p4), (4, .int .u64 ((pu s).1)), (3, .bool false), (2, .int .u64 0), (0, .string s)] ak0 ?_
    refine GoR.done (GoQ.thn (GoC.seq ?_))
    refine Xt (.rd 0 (.rd 1 (.rd 2 (.rd 3 (.rd 4 (.rd 5 (.rd 6 (.rd 7 (.rd 8 (.rd 9 (.rd 10 (.rd 11 (.rd 12 (.rd 13 (.ef 14 (.rd 15 (.rd 16 (.rd 17 (.rd 18 (.rd 19 .done)))))))))))))))))))) ?_
    refine Xk [(0, .gen []), (1, .gen []), (2, .gen []), (3, .gen []), (4, .gen []), (5, .gen []), (6, .gen []), (7, .gen []), (8, .gen []), (9, .gen []), (10, .gen []), (11, .gen []), (12, .gen []), (13, .gen [])] [] [(24, undef), (23, .bool false), (11, .int .u64 ((pu s).1)), (3, .bool false), (2, .int .u64 0), (0, .string s)] ak0 ?_
    refine GoR.skip rfl (by kernel_rfl) Xo ?_
    refine Xk [(15, .gen []), (16, .gen []), (17, .gen []), (18, .gen []), (19, .gen [])] [] [(3, .bool false), (2, .int .u64 ((pu s).1))] ak0 ?_
    refine GoR.done (GoQ.thn (GoC.ret ?_))
    refine X2 (v := .int .u64 ((pu s).1)) (v' := .bool false) ?_
    have hr : number s = (((pu s).1), false) := by rw [number, if_neg (ne_true_of_eq_false hp2)]
    exact ⟨by first | (rw [hr]; done) | (rw [hr]; rfl), hs1.drop 0⟩
end Go.Proofs.YtbmmknchcdhefaaGreatDoor
