/-
  strconv.FormatUint at base 10; package ledger: number.
-/
import Derived.Test.YtkiaagddmlddpaaGreatDoorProg
import Derived.Test.YtkiaagddmlddpaaGreatDoorLedL
namespace Go.Proofs.YtkiaagddmlddpaaGreatDoor
open Go.RowKit Go.Sx
set_option linter.unusedVariables false
set_option linter.unusedSimpArgs false
set_option linter.unnecessarySimpa false
set_option maxRecDepth 100000
theorem ifmt_spec {w0 w : World} {L : List Asn} (n : Int) (hn0 : 0 ≤ n) (hn1 : n < 18446744073709551616) (hL : ∀ w, St w0 L w → Laid w) (hs : St w0 L w) : Calls Tryz.prog 93 #[.int .u64 n, .int .i64 10] w (Ret fun rv w' => rv = .string (dec n) ∧ St w0 L w') := by
  refine enter (args := [.int .u64 n, .int .i64 10]) Tryz.func93 rfl Tryz.ntmps93 (Nat.le_of_ble_eq_true (by kernel_rfl)) ?_
  refine GoC.slots (S' := [(0, .int .u64 n), (1, .int .i64 10)]) rfl ?_
  refine GoC.seq ?_
  refine GoC.regT [1] (.rd 0 .done) (by kernel_rfl) (by kernel_rfl) ?_
  refine GoR.phaseK [(0, .gen [])] [4, 0, 1] [] [(4, .string (⟨#[]⟩ : ByteArray)), (0, .int .u64 n), (1, .int .i64 10)] (by kernel_rfl) rfl ak0 ?_
  refine GoR.done (GoQ.thn (GoC.seq (GoC.seq ?_)))
  refine GoC.regT [3, 3] (.rd 0 (.rd 1 .done)) (by kernel_rfl) (by kernel_rfl) ?_
  refine GoR.phaseK [(0, .gen []), (1, .gen [])] [10, 4, 0, 1] [] [(10, .bool true), (4, .string (⟨#[]⟩ : ByteArray)), (0, .int .u64 n), (1, .int .i64 10)] (by kernel_rfl) rfl ak0 ?_
  refine GoR.done (GoQ.thn (GoC.condT (by kernel_rfl) (GoC.seq (GoC.seq ?_))))
  refine GoC.regT [3, 3] (.rd 0 (.rd 1 .done)) (by kernel_rfl) (by kernel_rfl) ?_
  refine GoR.phaseK [(0, .gen []), (1, .gen [])] [12, 4, 0, 1] [] [(12, .bool (decide ((n : Int) < 100))), (4, .string (⟨#[]⟩ : ByteArray)), (0, .int .u64 n), (1, .int .i64 10)] (by kernel_rfl) rfl ak0 ?_
  refine GoR.done (GoQ.thn ?_)
  refine GoC.cond (t := decide ((n : Int) < 100)) (by kernel_rfl) (fun h1 => ?_) (fun h1 => ?_)
  · have h1' : (n : Int) < 100 := of_decide_eq_true h1
    have hz := dec_size n hn0 hn1
    refine GoC.seq ?_
    refine GoC.regT [15, 15, 15, 15] (.rd 0 (.rd 1 (.ef 2 (.rd 3 .done)))) (by kernel_rfl) (by kernel_rfl) ?_
    refine GoR.phaseK [(0, .gen []), (1, .as_ (.int .i64 n) (.gen []))] [14, 4, 0, 1] [(1, [.prop (Value.int .i64 (IntKind.i64.wrap n) = Value.int .i64 n)])] [(14, .int .i64 n), (4, .string (⟨#[]⟩ : ByteArray)), (0, .int .u64 n), (1, .int .i64 10)] (by kernel_rfl) rfl (ak (okp (i64ok (by omega) (by omega)) ok0) ak0) ?_
    refine GoR.call rfl rfl (by kernel_rfl) (f := 97) (args := #[.int .i64 n]) (by kernel_rfl) Tryz.call97 (small_spec n (by omega) (by omega) hs) ?_
    rintro v3 w4 ⟨rfl, hs2⟩
    refine ⟨(opn (by kernel_rfl)), ?_⟩
    refine GoR.phaseK [(3, .gen [])] [4, 0, 1] [] [(4, .string (dec n)), (0, .int .u64 n), (1, .int .i64 10)] (by kernel_rfl) rfl ak0 ?_
    refine GoR.done (GoQ.thn (GoC.ret (GoQ.skipCR (GoQ.skipCR ?_))))
    refine GoQ.done (.inl rfl) (v := .string (dec n)) (fun a hf => results1 rfl (by kernel_rfl) a hf) ?_
    exact ⟨rfl, hs2.drop 0⟩
  · have h1' : ¬ ((n : Int) < 100) := of_decide_eq_false h1
    have hz := dec_size n hn0 hn1
    refine GoC.skip (GoQ.thn (GoC.seq ?_))
    refine GoC.regT [1] (.ef 0 .done) (by kernel_rfl) (by kernel_rfl) ?_
    refine GoR.alloc rfl rfl (by kernel_rfl) (z := .agg #[.int .u8 0, .int .u8 0, .int .u8 0, .int .u8 0, .int .u8 0, .int .u8 0, .int .u8 0, .int .u8 0, .int .u8 0, .int .u8 0, .int .u8 0, .int .u8 0, .int .u8 0, .int .u8 0, .int .u8 0, .int .u8 0, .int .u8 0, .int .u8 0, .int .u8 0, .int .u8 0, .int .u8 0, .int .u8 0, .int .u8 0, .int .u8 0]) (by kernel_rfl) hs (cs := #[.int .u8 0, .int .u8 0, .int .u8 0, .int .u8 0, .int .u8 0, .int .u8 0, .int .u8 0, .int .u8 0, .int .u8 0, .int .u8 0, .int .u8 0, .int .u8 0, .int .u8 0, .int .u8 0, .int .u8 0, .int .u8 0, .int .u8 0, .int .u8 0, .int .u8 0, .int .u8 0, .int .u8 0, .int .u8 0, .int .u8 0, .int .u8 0]) (by kernel_rfl) ?_
    intro b5 w6 hs7
    refine ⟨(opn (by kernel_rfl)), ?_⟩
    refine GoR.done (GoQ.thn (GoC.seq ?_))
    refine GoC.regT [7, 7, 7] (.rd 0 (.ef 1 (.rd 2 .done))) (by kernel_rfl) (by kernel_rfl) ?_
    refine GoR.phaseK [(0, .gen [])] [16, 5, 4, 0, 1] [] [(16, .int .u64 n), (5, .pointer (some ⟨b5, 0, none⟩)), (4, .string (⟨#[]⟩ : ByteArray)), (0, .int .u64 n), (1, .int .i64 10)] (by kernel_rfl) rfl ak0 ?_
    refine GoR.call rfl rfl (by kernel_rfl) (f := 98) (args := #[.int .u64 n]) (by kernel_rfl) Tryz.call98 (numDigits_spec n (by omega) (by omega) (fun w h => hL w (h.drop 1)) hs7) ?_
    rintro v9 w10 ⟨rfl, hs8⟩
    refine ⟨(opn (by kernel_rfl)), ?_⟩
    refine GoR.phaseK [(2, .gen [])] [6, 5, 4, 0, 1] [] [(6, .int .i64 ((dec n).size : Nat)), (5, .pointer (some ⟨b5, 0, none⟩)), (4, .string (⟨#[]⟩ : ByteArray)), (0, .int .u64 n), (1, .int .i64 10)] (by kernel_rfl) rfl ak0 ?_
    refine GoR.done (GoQ.thn (GoC.seq ?_))
    refine GoC.regT [15, 15, 15, 15] (.rd 0 (.rd 1 (.rd 2 (.ef 3 .done)))) (by kernel_rfl) (by kernel_rfl) ?_
    refine GoR.phaseK [(0, .gen []), (1, .as_ (.slice (some ⟨b5, 0, none⟩) ((dec n).size) 24) (.sub 0 ((dec n).size))), (2, .gen [])] [20, 19, 6, 5, 4, 0, 1] [(1, [.prop ((((dec n).size : Nat) : Int) = ((((dec n).size) : Nat) : Int)), .prop ((((none : Option Operand)) = none → (0 : Nat) = 0) ∧ ((some (Operand.tmp 18)) = none → (((dec n).size) : Nat) = 24) ∧ (0 : Nat) ≤ ((dec n).size) ∧ (((dec n).size) : Nat) ≤ 24), .prop (Value.slice (some (if 24 = 0 then Addr.mk b5 0 none else (Addr.mk b5 0 none).add (0 * 1))) (((dec n).size) - 0) (24 - 0) = Value.slice (some ⟨b5, 0, none⟩) ((dec n).size) 24)])] [(20, .int .u64 n), (19, .slice (some ⟨b5, 0, none⟩) ((dec n).size) 24), (6, .int .i64 ((dec n).size : Nat)), (5, .pointer (some ⟨b5, 0, none⟩)), (4, .string (⟨#[]⟩ : ByteArray)), (0, .int .u64 n), (1, .int .i64 10)] (by kernel_rfl) rfl (ak (okp (by omega) (okp ⟨(by first | (intro _; rfl) | (intro hc; cases hc)), (by first | (intro _; rfl) | (intro hc; cases hc)), (by omega), (by omega)⟩ (okp (subArr0 _ _ _ _ _ (by decide)) ok0))) ak0) ?_
    have hs11 : St w0 ((Cel b5 (Array.replicate 24 (.int .u8 0)) 169) :: L) w10 := Eq.mp (by kernel_rfl) hs8
    refine GoR.call rfl rfl (by kernel_rfl) (f := 99) (args := #[.slice (some ⟨b5, 0, none⟩) ((dec n).size) 24, .int .u64 n]) (by kernel_rfl) Tryz.call99 (format_spec 24 (by decide) n (by omega) (by omega) hs11) ?_
    rintro v15 w16 ⟨rfl, cs13, hb14, hs12⟩
    refine ⟨(opn (by kernel_rfl)), ?_⟩
    refine GoR.done (GoQ.thn (GoC.seq ?_))
    refine GoC.regT [15, 15, 15, 15] (.rd 0 (.rd 1 (.rd 2 (.rd 3 .done)))) (by kernel_rfl) (by kernel_rfl) ?_
    refine GoR.phaseK [(0, .gen []), (1, .as_ (.slice (some ⟨b5, 0, none⟩) ((dec n).size) 24) (.sub 0 ((dec n).size)))] [23, 4, 0, 1] [(1, [.prop ((((dec n).size : Nat) : Int) = ((((dec n).size) : Nat) : Int)), .prop ((((none : Option Operand)) = none → (0 : Nat) = 0) ∧ ((some (Operand.tmp 22)) = none → (((dec n).size) : Nat) = 24) ∧ (0 : Nat) ≤ ((dec n).size) ∧ (((dec n).size) : Nat) ≤ 24), .prop (Value.slice (some (if 24 = 0 then Addr.mk b5 0 none else (Addr.mk b5 0 none).add (0 * 1))) (((dec n).size) - 0) (24 - 0) = Value.slice (some ⟨b5, 0, none⟩) ((dec n).size) 24)])] [(23, .slice (some ⟨b5, 0, none⟩) ((dec n).size) 24), (4, .string (⟨#[]⟩ : ByteArray)), (0, .int .u64 n), (1, .int .i64 10)] (by kernel_rfl) rfl (ak (okp (by omega) (okp ⟨(by first | (intro _; rfl) | (intro hc; cases hc)), (by first | (intro _; rfl) | (intro hc; cases hc)), (by omega), (by omega)⟩ (okp (subArr0 _ _ _ _ _ (by decide)) ok0))) ak0) ?_
    refine GoR.bytesStr rfl (by kernel_rfl) (src := 23) (dst := 9) (e := 5) (b := b5) (off := 0) (cap := 24) (q := Lib.decDigits (Int.toNat n)) (by kernel_rfl) (by kernel_rfl) (by kernel_rfl) (by kernel_rfl) hb14 ?_
    refine GoR.phaseK [(3, .gen [])] [4, 0, 1] [] [(4, .string (⟨(Lib.decDigits (Int.toNat n)).toArray⟩ : ByteArray)), (0, .int .u64 n), (1, .int .i64 10)] (by kernel_rfl) rfl ak0 ?_
    refine GoR.done (GoQ.thn (GoC.ret (GoQ.skipCR ?_)))
    refine GoQ.done (.inl rfl) (v := .string (⟨(Lib.decDigits (Int.toNat n)).toArray⟩ : ByteArray)) (fun a hf => results1 rfl (by kernel_rfl) a hf) ?_
    exact ⟨rfl, hs12.drop 1⟩
theorem fmtu_spec {w0 w : World} {L : List Asn} (n : Int) (hn0 : 0 ≤ n) (hn1 : n < 18446744073709551616) (hL : ∀ w, St w0 L w → Laid w) (hs : St w0 L w) : Calls Tryz.prog 86 #[.int .u64 n, .int .i64 10] w (Ret fun rv w' => rv = .string (dec n) ∧ St w0 L w') := by
  refine enter (args := [.int .u64 n, .int .i64 10]) Tryz.func86 rfl Tryz.ntmps86 (Nat.le_of_ble_eq_true (by kernel_rfl)) ?_
  refine GoC.slots (S' := [(0, .int .u64 n), (1, .int .i64 10)]) rfl ?_
  refine GoC.seq ?_
  refine GoC.regT [1] (.rd 0 .done) (by kernel_rfl) (by kernel_rfl) ?_
  refine GoR.phaseK [(0, .gen [])] [4, 0, 1] [] [(4, .string (⟨#[]⟩ : ByteArray)), (0, .int .u64 n), (1, .int .i64 10)] (by kernel_rfl) rfl ak0 ?_
  refine GoR.done (GoQ.thn (GoC.seq ?_))
  refine GoC.regT [15, 15, 15, 15] (.rd 0 (.rd 1 (.ef 2 (.rd 3 .done)))) (by kernel_rfl) (by kernel_rfl) ?_
  refine GoR.phaseK [(0, .gen []), (1, .gen [])] [6, 5, 4] [] [(6, .int .i64 10), (5, .int .u64 n), (4, .string (⟨#[]⟩ : ByteArray))] (by kernel_rfl) rfl ak0 ?_
  refine GoR.call rfl rfl (by kernel_rfl) (f := 93) (args := #[.int .u64 n, .int .i64 10]) (by kernel_rfl) Tryz.call93 (ifmt_spec n (by omega) (by omega) (fun w h => hL w (h.drop 0)) hs) ?_
  rintro v2 w3 ⟨rfl, hs1⟩
  refine ⟨(opn (by kernel_rfl)), ?_⟩
  refine GoR.phaseK [(3, .gen [])] [4] [] [(4, .string (dec n))] (by kernel_rfl) rfl ak0 ?_
  refine GoR.done (GoQ.thn (GoC.ret ?_))
  refine GoQ.done (.inl rfl) (v := .string (dec n)) (fun a hf => results1 rfl (by kernel_rfl) a hf) ?_
  exact ⟨rfl, hs1.drop 0⟩
def number (s : ByteArray) : Int × Bool :=
  if ((pu s).2) = true then
    if (decide (((s.size : Nat) : Int) ≤ 16)) = true then
      if (decide (((pu s).1 : Int) ≤ 1125899906842624)) = true then
        (((pu s).1), (decide ((dec ((pu s).1)) = s)))
      else
        (((pu s).1), false)
    else
      (((pu s).1), false)
  else
    (((pu s).1), false)
theorem number_spec {w0 w : World} {L : List Asn} (s : ByteArray) (hlen : s.size ≤ 281474976710656) (hL : ∀ w, St w0 L w → Laid w) (hs : St w0 L w) : Calls Tryz.prog 85 #[.string s] w (Ret fun rv w' => rv = .tuple #[.int .u64 ((number s).1), .bool ((number s).2)] ∧ St w0 L w') := by
  refine enter (args := [.string s]) Tryz.func85 rfl Tryz.ntmps85 (Nat.le_of_ble_eq_true (by kernel_rfl)) ?_
  refine GoC.slots (S' := [(0, .string s)]) rfl ?_
  refine GoC.seq ?_
  refine GoC.regT [3, 3] (.rd 0 (.rd 1 .done)) (by kernel_rfl) (by kernel_rfl) ?_
  refine GoR.phaseK [(0, .gen []), (1, .gen [])] [3, 2, 0] [] [(3, .bool false), (2, .int .u64 0), (0, .string s)] (by kernel_rfl) rfl ak0 ?_
  refine GoR.done (GoQ.thn (GoC.seq ?_))
  refine GoC.regT [127, 127, 127, 127, 127, 127, 127] (.rd 0 (.ef 1 (.rd 2 (.rd 3 (.rd 4 (.rd 5 (.rd 6 .done))))))) (by kernel_rfl) (by kernel_rfl) ?_
  refine GoR.phaseK [(0, .gen [])] [7, 3, 2, 0] [] [(7, .string s), (3, .bool false), (2, .int .u64 0), (0, .string s)] (by kernel_rfl) rfl ak0 ?_
  refine GoR.call rfl rfl (by kernel_rfl) (f := 92) (args := #[.string s, .int .i64 10, .int .i64 64]) (by kernel_rfl) Tryz.call92 (parse_spec s hlen (fun w h => hL w (h.drop 0)) hs) ?_
  rintro v5 w6 ⟨⟨_, rfl, (⟨hp2, rfl⟩ | ⟨hp2, t3, p4, rfl⟩)⟩, hs1⟩
  · have hrhp2 := pu_range s
    refine ⟨(opn (by kernel_rfl)), ?_⟩
    refine GoR.phaseK [(2, .gen []), (3, .gen []), (4, .gen []), (5, .gen []), (6, .gen [])] [5, 4, 3, 2, 0] [] [(5, .nilIface), (4, .int .u64 ((pu s).1)), (3, .bool false), (2, .int .u64 0), (0, .string s)] (by kernel_rfl) rfl ak0 ?_
    refine GoR.done (GoQ.thn (GoC.seq ?_))
    refine GoC.regT [1048575, 1048575, 1048575, 1048575, 1048575, 1048575, 1048575, 1048575, 1048575, 1048575, 1048575, 1048575, 1048575, 1048575, 1048575, 1048575, 1048575, 1048575, 1048575, 1048575] (.rd 0 (.rd 1 (.rd 2 (.rd 3 (.rd 4 (.rd 5 (.rd 6 (.rd 7 (.rd 8 (.rd 9 (.rd 10 (.rd 11 (.rd 12 (.rd 13 (.ef 14 (.rd 15 (.rd 16 (.rd 17 (.rd 18 (.rd 19 .done)))))))))))))))))))) (by kernel_rfl) (by kernel_rfl) ?_
    refine GoR.phaseK [(0, .gen []), (1, .gen []), (2, .gen []), (3, .gen []), (4, .gen []), (5, .gen []), (6, .gen []), (7, .gen []), (8, .gen [])] [19, 11, 4, 3, 2, 0] [] [(19, .bool (decide (((s.size : Nat) : Int) ≤ 16))), (11, .int .u64 ((pu s).1)), (4, .int .u64 ((pu s).1)), (3, .bool false), (2, .int .u64 0), (0, .string s)] (by kernel_rfl) rfl ak0 ?_
    rcases Bool.eq_false_or_eq_true (decide (((s.size : Nat) : Int) ≤ 16)) with h7 | h7
    · refine GoR.setB 19 true (by decide) (by kernel_rfl) h7 ?_
      have h7' : ((s.size : Nat) : Int) ≤ 16 := of_decide_eq_true h7
      refine GoR.phaseK [(9, .gen []), (10, .gen []), (11, .gen []), (12, .gen [])] [23, 11, 4, 3, 2, 0] [] [(23, .bool (decide (((pu s).1 : Int) ≤ 1125899906842624))), (11, .int .u64 ((pu s).1)), (4, .int .u64 ((pu s).1)), (3, .bool false), (2, .int .u64 0), (0, .string s)] (by kernel_rfl) rfl ak0 ?_
      rcases Bool.eq_false_or_eq_true (decide (((pu s).1 : Int) ≤ 1125899906842624)) with h8 | h8
      · refine GoR.setB 23 true (by decide) (by kernel_rfl) h8 ?_
        have h8' : ((pu s).1 : Int) ≤ 1125899906842624 := of_decide_eq_true h8
        refine GoR.phaseK [(13, .gen [])] [24, 23, 11, 3, 2, 0] [] [(24, .int .u64 ((pu s).1)), (23, .bool true), (11, .int .u64 ((pu s).1)), (3, .bool false), (2, .int .u64 0), (0, .string s)] (by kernel_rfl) rfl ak0 ?_
        refine GoR.call rfl rfl (by kernel_rfl) (f := 86) (args := #[.int .u64 ((pu s).1), .int .i64 10]) (by kernel_rfl) Tryz.call86 (fmtu_spec ((pu s).1) (by omega) (by omega) (fun w h => hL w (h.drop 0)) hs1) ?_
        rintro v10 w11 ⟨rfl, hs9⟩
        refine ⟨(opn (by kernel_rfl)), ?_⟩
        refine GoR.phaseK [(15, .gen []), (16, .as_ (.bool (decide ((dec ((pu s).1)) = s))) (.gen [])), (17, .gen []), (18, .gen []), (19, .gen [])] [3, 2] [(16, [.prop (Value.bool ((dec ((pu s).1)).toList == s.toList) = Value.bool (decide ((dec ((pu s).1)) = s)))])] [(3, .bool (decide ((dec ((pu s).1)) = s))), (2, .int .u64 ((pu s).1))] (by kernel_rfl) rfl (ak (okp (seq _ _) ok0) ak0) ?_
        refine GoR.done (GoQ.thn (GoC.ret ?_))
        refine GoQ.done (.inl rfl) (v := .tuple #[.int .u64 ((pu s).1), .bool (decide ((dec ((pu s).1)) = s))]) (fun a hf => results2 rfl (by kernel_rfl) (by kernel_rfl) a hf) ?_
        have hr : number s = (((pu s).1), (decide ((dec ((pu s).1)) = s))) := by rw [number, if_pos hp2, if_pos h7, if_pos h8]
        exact ⟨by first | (rw [hr]; done) | (rw [hr]; rfl), hs9.drop 0⟩
      · refine GoR.setB 23 false (by decide) (by kernel_rfl) h8 ?_
        have h8' : ¬ (((pu s).1 : Int) ≤ 1125899906842624) := of_decide_eq_false h8
        refine GoR.phaseK [(13, .gen [])] [24, 23, 11, 3, 2, 0] [] [(24, undef), (23, .bool false), (11, .int .u64 ((pu s).1)), (3, .bool false), (2, .int .u64 0), (0, .string s)] (by kernel_rfl) rfl ak0 ?_
        refine GoR.skip rfl (by kernel_rfl) (opn (by kernel_rfl)) ?_
        refine GoR.phaseK [(15, .gen []), (16, .gen []), (17, .gen []), (18, .gen []), (19, .gen [])] [3, 2] [] [(3, .bool false), (2, .int .u64 ((pu s).1))] (by kernel_rfl) rfl ak0 ?_
        refine GoR.done (GoQ.thn (GoC.ret ?_))
        refine GoQ.done (.inl rfl) (v := .tuple #[.int .u64 ((pu s).1), .bool false]) (fun a hf => results2 rfl (by kernel_rfl) (by kernel_rfl) a hf) ?_
        have hr : number s = (((pu s).1), false) := by rw [number, if_pos hp2, if_pos h7, if_neg (ne_true_of_eq_false h8)]
        exact ⟨by first | (rw [hr]; done) | (rw [hr]; rfl), hs1.drop 0⟩
    · refine GoR.setB 19 false (by decide) (by kernel_rfl) h7 ?_
      have h7' : ¬ (((s.size : Nat) : Int) ≤ 16) := of_decide_eq_false h7
      refine GoR.phaseK [(9, .gen []), (10, .gen []), (11, .gen []), (12, .gen []), (13, .gen [])] [24, 23, 11, 3, 2, 0] [] [(24, undef), (23, .bool false), (11, .int .u64 ((pu s).1)), (3, .bool false), (2, .int .u64 0), (0, .string s)] (by kernel_rfl) rfl ak0 ?_
      refine GoR.skip rfl (by kernel_rfl) (opn (by kernel_rfl)) ?_
      refine GoR.phaseK [(15, .gen []), (16, .gen []), (17, .gen []), (18, .gen []), (19, .gen [])] [3, 2] [] [(3, .bool false), (2, .int .u64 ((pu s).1))] (by kernel_rfl) rfl ak0 ?_
      refine GoR.done (GoQ.thn (GoC.ret ?_))
      refine GoQ.done (.inl rfl) (v := .tuple #[.int .u64 ((pu s).1), .bool false]) (fun a hf => results2 rfl (by kernel_rfl) (by kernel_rfl) a hf) ?_
      have hr : number s = (((pu s).1), false) := by rw [number, if_pos hp2, if_neg (ne_true_of_eq_false h7)]
      exact ⟨by first | (rw [hr]; done) | (rw [hr]; rfl), hs1.drop 0⟩
  · have hrhp2 := pu_range s
    refine ⟨(opn (by kernel_rfl)), ?_⟩
    refine GoR.phaseK [(2, .gen []), (3, .gen []), (4, .gen []), (5, .gen []), (6, .gen [])] [5, 4, 3, 2, 0] [] [(5, .iface t3 p4), (4, .int .u64 ((pu s).1)), (3, .bool false), (2, .int .u64 0), (0, .string s)] (by kernel_rfl) rfl ak0 ?_
    refine GoR.done (GoQ.thn (GoC.seq ?_))
    refine GoC.regT [1048575, 1048575, 1048575, 1048575, 1048575, 1048575, 1048575, 1048575, 1048575, 1048575, 1048575, 1048575, 1048575, 1048575, 1048575, 1048575, 1048575, 1048575, 1048575, 1048575] (.rd 0 (.rd 1 (.rd 2 (.rd 3 (.rd 4 (.rd 5 (.rd 6 (.rd 7 (.rd 8 (.rd 9 (.rd 10 (.rd 11 (.rd 12 (.rd 13 (.ef 14 (.rd 15 (.rd 16 (.rd 17 (.rd 18 (.rd 19 .done)))))))))))))))))))) (by kernel_rfl) (by kernel_rfl) ?_
    refine GoR.phaseK [(0, .gen []), (1, .gen []), (2, .gen []), (3, .gen []), (4, .gen []), (5, .gen []), (6, .gen []), (7, .gen []), (8, .gen []), (9, .gen []), (10, .gen []), (11, .gen []), (12, .gen []), (13, .gen [])] [24, 23, 11, 3, 2, 0] [] [(24, undef), (23, .bool false), (11, .int .u64 ((pu s).1)), (3, .bool false), (2, .int .u64 0), (0, .string s)] (by kernel_rfl) rfl ak0 ?_
    refine GoR.skip rfl (by kernel_rfl) (opn (by kernel_rfl)) ?_
    refine GoR.phaseK [(15, .gen []), (16, .gen []), (17, .gen []), (18, .gen []), (19, .gen [])] [3, 2] [] [(3, .bool false), (2, .int .u64 ((pu s).1))] (by kernel_rfl) rfl ak0 ?_
    refine GoR.done (GoQ.thn (GoC.ret ?_))
    refine GoQ.done (.inl rfl) (v := .tuple #[.int .u64 ((pu s).1), .bool false]) (fun a hf => results2 rfl (by kernel_rfl) (by kernel_rfl) a hf) ?_
    have hr : number s = (((pu s).1), false) := by rw [number, if_neg (ne_true_of_eq_false hp2)]
    exact ⟨by first | (rw [hr]; done) | (rw [hr]; rfl), hs1.drop 0⟩
end Go.Proofs.YtkiaagddmlddpaaGreatDoor
