/-
  What the document asks of numerals: Digits, Number. Conditions: none beside each theorem's own.
-/
import Derived.Test.YtbmmknchcdhefaaGreatDoorSxT
import Derived.Test.YtbmmknchcdhefaaGreatDoorLawP
namespace Go.Proofs.YtbmmknchcdhefaaGreatDoor
open Go.RowKit Go.Sx
set_option linter.unusedVariables false
set_option linter.unusedSimpArgs false
set_option linter.unnecessarySimpa false
set_option maxRecDepth 100000
def dOut (n : Int) (out : ByteArray) : ByteArray := if n = 0 ∧ out ≠ ⟨#[]⟩ then out else dec n ++ out
theorem dig1 {c : Int} (h0 : 0 ≤ c) (h1 : c < 10) : (⟨([u8of (48 + c)] : List UInt8).toArray⟩ : ByteArray) = ⟨#[UInt8.ofNat (48 + c.toNat)]⟩ := by
  have : (48 + c).toNat = 48 + c.toNat := by omega
  simp [u8of, this]
theorem cat_ne (a : UInt8) (l : ByteArray) : (⟨#[a]⟩ : ByteArray) ++ l ≠ ⟨#[]⟩ := by
  intro e
  have := congrArg ByteArray.size e
  rw [ByteArray.size_append] at this
  have h1 : (⟨#[a]⟩ : ByteArray).size = 1 := rfl
  have h2 : (⟨#[]⟩ : ByteArray).size = 0 := rfl
  omega
theorem dOut_step {n : Int} {out : ByteArray} (h0 : 0 ≤ n) (hg : 0 < n ∨ out = ⟨#[]⟩) : dOut (n / 10) ((⟨([u8of (48 + n % 10)] : List UInt8).toArray⟩ : ByteArray) ++ out) = dOut n out := by
  rw [dig1 (by omega) (by omega)]
  have hne : ¬ (n = 0 ∧ out ≠ ⟨#[]⟩) := by
    rintro ⟨h1, h2⟩
    rcases hg with h | h
    · omega
    · exact h2 h
  rw [dOut, dOut, if_neg hne]
  by_cases h10 : n < 10
  · rw [if_pos ⟨by omega, cat_ne _ _⟩, dec_small h0 h10]
    have e : n % 10 = n := by omega
    rw [e]
  · rw [if_neg (by omega), dec_step (n := n) (by omega), ByteArray.append_assoc]
theorem digits_mu {n : Int} {a : UInt8} {out : ByteArray} (h0 : 0 ≤ n) (hg : 0 < n ∨ out = ⟨#[]⟩) : (n / 10).toNat + (if (⟨#[a]⟩ : ByteArray) ++ out = ⟨#[]⟩ then 1 else 0) < n.toNat + (if out = ⟨#[]⟩ then 1 else 0) := by
  rw [if_neg (cat_ne _ _)]
  rcases hg with h | h
  · omega
  · rw [if_pos h]; omega
theorem num_bad {s : ByteArray} {k : Nat} (hk : k < s.data.toList.length) (h : bat s k < 48 ∨ 57 < bat s k) : num s = (0, false) := by
  rw [num, if_neg]
  intro hc
  have hm := List.all_eq_true.1 hc.2.2 _ (List.getElem_mem hk)
  have he : (s.data.toList[k]'hk).toNat = bat s k := by rw [bat_list, List.getD_eq_getElem?_getD, List.getElem?_eq_getElem hk]; rfl
  simp only [isDig, he, Bool.and_eq_true, decide_eq_true_eq] at hm
  omega
theorem dOut_size (n : Int) (out : ByteArray) : out.size ≤ (dOut n out).size := by
  unfold dOut
  split
  · exact Nat.le_refl _
  · rw [ByteArray.size_append]; omega
theorem digits_spec {w0 w : World} {L : List Asn} (n0 : Int) (h0 : 0 ≤ n0) (h1' : n0 < 18446744073709551616) (hs : St w0 (L) w) : Calls Tryz.prog 80 #[.int .u64 n0] w (Ret fun rv w' => rv = .string (dec n0) ∧ St w0 (L) w') := by
  refine enter (args := [.int .u64 n0]) Tryz.func80 rfl Tryz.ntmps80 (Nat.le_of_ble_eq_true (by kernel_rfl)) ?_
  refine GoC.slots (S' := [(0, .int .u64 n0)]) rfl ?_
  refine GoC.seq ?_
  refine Xt (.rd 0 .done) ?_
  refine Xk [(0, .gen [])] [] [(2, .string (⟨#[]⟩ : ByteArray)), (0, .int .u64 n0)] ak0 ?_
  refine GoR.done (GoQ.thn (GoC.seq ?_))
  refine Xt (.rd 0 .done) ?_
  refine Xk [(0, .gen [])] [] [(3, .string (⟨#[]⟩ : ByteArray)), (2, .string (⟨#[]⟩ : ByteArray)), (0, .int .u64 n0)] ak0 ?_
  refine GoR.done (GoQ.thn (GoC.seq (GoC.block ?_)))
  refine GoC.loop (T := Int × ByteArray) (fun gg => [(0, .int .u64 gg.1), (2, .string (⟨#[]⟩ : ByteArray)), (3, .string gg.2)]) (fun gg w => ((0 ≤ gg.1 ∧ gg.1 < 18446744073709551616) ∧ dOut gg.1 gg.2 = dec n0) ∧ St w0 (L) w) (fun gg => gg.1.toNat + (if gg.2 = ⟨#[]⟩ then 1 else 0)) (n0, ⟨#[]⟩) [0, 2, 3] (by kernel_rfl) ⟨⟨by omega, by rw [dOut, if_neg (fun h => h.2 rfl)]; exact ByteArray.append_empty⟩, hs⟩ ?_
  rintro ⟨n, out⟩ w1 ⟨hp0, hs2⟩
  have hp : (0 ≤ n ∧ n < 18446744073709551616) ∧ dOut n out = dec n0 := hp0
  have hs3 : St w0 (L) w1 := hs2
  refine GoC.slots (S' := [(0, .int .u64 n), (2, .string (⟨#[]⟩ : ByteArray)), (3, .string out)]) rfl ?_
  refine GoC.seq (GoC.seq ?_)
  refine GoC.join (T := Unit) (E := fun _ => [(9, .bool ((decide ((n : Int) > 0)) || (decide (out = (⟨#[]⟩ : ByteArray))))), (0, .int .u64 n), (2, .string (⟨#[]⟩ : ByteArray)), (3, .string out)]) (F := fun _ w => St w0 (L) w) ?_ ?_
  · refine Xt (.rd 0 (.rd 1 (.rd 2 (.rd 3 (.rd 4 (.rd 5 .done)))))) ?_
    refine Xk [(0, .gen []), (1, .gen []), (2, .gen [])] [] [(6, .bool (decide ((n : Int) > 0))), (0, .int .u64 n), (2, .string (⟨#[]⟩ : ByteArray)), (3, .string out)] ak0 ?_
    rcases Bool.eq_false_or_eq_true (decide ((n : Int) > 0)) with h4 | h4
    · refine Xs 6 true h4 ?_
      have h4' : (n : Int) > 0 := of_decide_eq_true h4
      refine Xk [(3, .gen []), (4, .gen []), (5, .gen [])] [] [(9, .bool true), (0, .int .u64 n), (2, .string (⟨#[]⟩ : ByteArray)), (3, .string out)] ak0 ?_
      refine GoR.done ?_
      refine GoQ.pick [9, 0, 2, 3] (S' := [(9, .bool true), (0, .int .u64 n), (2, .string (⟨#[]⟩ : ByteArray)), (3, .string out)]) (by kernel_rfl) ?_
      exact GoQ.meet1 () (by first | rfl | (simp only [h4, Bool.not_true, Bool.not_false, Bool.true_or, Bool.false_or, Bool.true_and, Bool.false_and, Bool.or_true, Bool.or_false, Bool.and_true, Bool.and_false]; done) | (simp [h4]; done)) hs3
    · refine Xs 6 false h4 ?_
      have h4' : ¬ ((n : Int) > 0) := of_decide_eq_false h4
      refine Xk [(3, .gen []), (4, .as_ (.bool (decide (out = (⟨#[]⟩ : ByteArray)))) (.gen [])), (5, .gen [])] [(4, [.prop (Value.bool (out.toList == (⟨#[]⟩ : ByteArray).toList) = Value.bool (decide (out = (⟨#[]⟩ : ByteArray))))])] [(9, .bool (decide (out = (⟨#[]⟩ : ByteArray)))), (0, .int .u64 n), (2, .string (⟨#[]⟩ : ByteArray)), (3, .string out)] (ak (okp (seq _ _) ok0) ak0) ?_
      refine GoR.done ?_
      refine GoQ.pick [9, 0, 2, 3] (S' := [(9, .bool (decide (out = (⟨#[]⟩ : ByteArray)))), (0, .int .u64 n), (2, .string (⟨#[]⟩ : ByteArray)), (3, .string out)]) (by kernel_rfl) ?_
      exact GoQ.meet1 () (by first | rfl | (simp only [h4, Bool.not_true, Bool.not_false, Bool.true_or, Bool.false_or, Bool.true_and, Bool.false_and, Bool.or_true, Bool.or_false, Bool.and_true, Bool.and_false]; done) | (simp [h4]; done)) hs3
  intro _ w5 hs6
  refine GoQ.thn ?_
  refine Xc (t := (decide ((n : Int) > 0)) || (decide (out = (⟨#[]⟩ : ByteArray)))) (fun h7 => ?_) (fun h7 => ?_)
  · have hos : out.size ≤ 20 := by
      have h1 := dOut_size n out
      rw [hp.2] at h1
      have h2 := dec_size n0 h0 h1'
      omega
    have hgo : 0 < n ∨ out = ⟨#[]⟩ := by simpa using h7
    refine GoC.skip (GoQ.thn (GoC.block (GoC.seq ?_)))
    refine Xt (.rd 0 (.rd 1 (.rd 2 (.rd 3 (.ef 4 (.rd 5 (.rd 6 (.rd 7 (.rd 8 .done))))))))) ?_
    refine Xk [(0, .gen []), (1, .div (n % 10)), (2, .as_ (.int .u64 (48 + (n % 10))) (.gen [])), (3, .as_ (.int .u8 (48 + (n % 10))) (.gen []))] [(1, [.prop (IntKind.u64 = IntKind.u64 ∧ (10 : Int) ≠ 0 ∧ Int.tmod n 10 = n % 10)]), (2, [.prop (Value.int .u64 (IntKind.u64.wrap (48 + (n % 10))) = Value.int .u64 (48 + (n % 10)))]), (3, [.prop (Value.int .u8 (IntKind.u8.wrap (48 + (n % 10))) = Value.int .u8 (48 + (n % 10)))])] [(13, .int .u8 (48 + (n % 10))), (0, .int .u64 n), (2, .string (⟨#[]⟩ : ByteArray)), (3, .string out)] (ak (okp ⟨rfl, by decide, Int.tmod_eq_emod_of_nonneg (by first | omega | exact Int.natCast_nonneg _)⟩ ok0) (ak (okp (u64ok (by omega) (by omega)) ok0) (ak (okp (u8ok (by omega) (by omega)) ok0) ak0))) ?_
    refine GoR.sliceLit rfl (by kernel_rfl) (t := 146) (e := 5) (n := 1) (ps := [(0, .int .u8 (48 + (n % 10)))]) (by kernel_rfl) (by kernel_rfl) (ti := Tryz.t5) (z := .int .u8 0) (by kernel_rfl) (by kernel_rfl) (by decide) (by decide) (cs := #[.int .u8 (48 + (n % 10))]) (by kernel_rfl) hs6 ?_
    intro b8 w9 hs10 hz11
    refine ⟨Xo, ?_⟩
    refine GoR.bytesStr rfl (by kernel_rfl) (src := 146) (dst := 9) (e := 5) (b := b8) (off := 0) (cap := 1) (q := ([u8of (48 + (n % 10))] : List UInt8)) (by kernel_rfl) (by kernel_rfl) (by kernel_rfl) (by kernel_rfl) (celBytes [48 + (n % 10)] (hs10.at_ 0 rfl) (by intro x hx; simp only [List.mem_cons, List.not_mem_nil, or_false] at hx; omega)) ?_
    refine Xk [(6, .gen []), (7, .add2), (8, .gen [])] [(7, [.prop (((ByteArray.size (⟨(([u8of (48 + (n % 10))] : List UInt8)).toArray⟩ : ByteArray) + ByteArray.size out : Nat) : Int) ≤ IntKind.i64.max)])] [(3, .string ((⟨(([u8of (48 + (n % 10))] : List UInt8)).toArray⟩ : ByteArray) ++ out)), (0, .int .u64 n), (2, .string (⟨#[]⟩ : ByteArray))] (ak (okp (by simp only [IntKind.max, IntKind.signed, IntKind.bits]; have hz : ((⟨(([u8of (48 + (n % 10))] : List UInt8)).toArray⟩ : ByteArray) : ByteArray).size = 1 := rfl; omega) ok0) ak0) ?_
    refine GoR.done (GoQ.thn ?_)
    refine Xt (.rd 0 (.rd 1 (.rd 2 .done))) ?_
    refine Xk [(0, .gen []), (1, .div (n / 10)), (2, .gen [])] [(1, [.prop (IntKind.u64 = IntKind.u64 ∧ (10 : Int) ≠ 0 ∧ IntKind.u64.wrap (Int.tdiv n 10) = n / 10)])] [(0, .int .u64 (n / 10)), (3, .string ((⟨(([u8of (48 + (n % 10))] : List UInt8)).toArray⟩ : ByteArray) ++ out)), (2, .string (⟨#[]⟩ : ByteArray))] (ak (okp ⟨rfl, by decide, by rw [Int.tdiv_eq_ediv_of_nonneg (by omega)]; exact u64w (by omega) (by omega)⟩ ok0) ak0) ?_
    refine GoR.done (GoQ.blkN ?_)
    have hs12 : St w0 (L) w9 := hs10.drop 1
    exact GoQ.back (n / 10, (⟨(([u8of (48 + (n % 10))] : List UInt8)).toArray⟩ : ByteArray) ++ out) [0, 2, 3] (by kernel_rfl) (by show (n / 10).toNat + (if ((⟨(([u8of (48 + (n % 10))] : List UInt8)).toArray⟩ : ByteArray) ++ out) = ⟨#[]⟩ then 1 else 0) < n.toNat + (if out = ⟨#[]⟩ then 1 else 0); exact digits_mu hp.1.1 hgo) ⟨⟨by omega, by rw [dOut_step (by omega) hgo]; exact hp.2⟩, hs12⟩
  · have h7a : (decide ((n : Int) > 0)) = false := (Bool.or_eq_false_iff.1 h7).1
    have h7a' : ¬ ((n : Int) > 0) := of_decide_eq_false h7a
    have h7b : (decide (out = (⟨#[]⟩ : ByteArray))) = false := (Bool.or_eq_false_iff.1 h7).2
    have h7b' : ¬ (out = (⟨#[]⟩ : ByteArray)) := of_decide_eq_false h7b
    have hgo : n = 0 ∧ out ≠ ⟨#[]⟩ := by have h9 : ¬ (0 < n ∨ out = ⟨#[]⟩) := (by simpa using h7); exact ⟨by omega, fun e => h9 (.inr e)⟩
    refine GoC.exit (GoQ.skipC (GoQ.skipL (GoQ.hit (GoQ.thn (GoC.seq ?_)))))
    refine Xt (.rd 0 (.rd 1 .done)) ?_
    refine Xk [(0, .gen []), (1, .gen [])] [] [(2, .string out)] ak0 ?_
    refine GoR.done (GoQ.thn (GoC.ret ?_))
    refine X1 (v := .string out) ?_
    have hd : out = dec n0 := by
      have := hp.2
      rw [dOut, if_pos hgo] at this
      exact this
    subst hd
    exact ⟨rfl, hs6⟩
theorem num_spec {w0 w : World} {L : List Asn} (s : ByteArray) (hsz : s.size ≤ 281474976710656) (hs : St w0 (L) w) : Calls Tryz.prog 79 #[.string s] w (Ret fun rv w' => rv = .tuple #[.int .u64 ((num s).1), .bool ((num s).2)] ∧ St w0 (L) w') := by
  refine enter (args := [.string s]) Tryz.func79 rfl Tryz.ntmps79 (Nat.le_of_ble_eq_true (by kernel_rfl)) ?_
  refine GoC.slots (S' := [(0, .string s)]) rfl ?_
  refine GoC.seq ?_
  refine Xt (.rd 0 (.rd 1 .done)) ?_
  refine Xk [(0, .gen []), (1, .gen [])] [] [(3, .bool false), (2, .int .u64 0), (0, .string s)] ak0 ?_
  refine GoR.done (GoQ.thn (GoC.seq ?_))
  refine Xt (.rd 0 .done) ?_
  refine Xk [(0, .gen [])] [] [(4, .int .u64 0), (3, .bool false), (2, .int .u64 0), (0, .string s)] ak0 ?_
  refine GoR.done (GoQ.thn (GoC.seq (GoC.seq ?_)))
  refine GoC.join (T := Unit) (E := fun _ => [(13, .bool ((decide (((s.size : Nat) : Int) < 1)) || (decide (((s.size : Nat) : Int) > 16)))), (4, .int .u64 0), (3, .bool false), (2, .int .u64 0), (0, .string s)]) (F := fun _ w => St w0 (L) w) ?_ ?_
  · refine Xt (.rd 0 (.rd 1 (.rd 2 (.rd 3 (.rd 4 (.rd 5 (.rd 6 (.rd 7 .done)))))))) ?_
    refine Xk [(0, .gen []), (1, .gen []), (2, .gen []), (3, .gen [])] [] [(9, .bool (decide (((s.size : Nat) : Int) < 1))), (4, .int .u64 0), (3, .bool false), (2, .int .u64 0), (0, .string s)] ak0 ?_
    rcases Bool.eq_false_or_eq_true (decide (((s.size : Nat) : Int) < 1)) with h1 | h1
    · refine Xs 9 true h1 ?_
      have h1' : ((s.size : Nat) : Int) < 1 := of_decide_eq_true h1
      refine Xk [(4, .gen []), (5, .gen []), (6, .gen []), (7, .gen [])] [] [(13, .bool true), (4, .int .u64 0), (3, .bool false), (2, .int .u64 0), (0, .string s)] ak0 ?_
      refine GoR.done ?_
      refine GoQ.pick [13, 4, 3, 2, 0] (S' := [(13, .bool true), (4, .int .u64 0), (3, .bool false), (2, .int .u64 0), (0, .string s)]) (by kernel_rfl) ?_
      exact GoQ.meet1 () (by first | rfl | (simp only [h1, Bool.not_true, Bool.not_false, Bool.true_or, Bool.false_or, Bool.true_and, Bool.false_and, Bool.or_true, Bool.or_false, Bool.and_true, Bool.and_false]; done) | (simp [h1]; done)) hs
    · refine Xs 9 false h1 ?_
      have h1' : ¬ (((s.size : Nat) : Int) < 1) := of_decide_eq_false h1
      refine Xk [(4, .gen []), (5, .gen []), (6, .gen []), (7, .gen [])] [] [(13, .bool (decide (((s.size : Nat) : Int) > 16))), (4, .int .u64 0), (3, .bool false), (2, .int .u64 0), (0, .string s)] ak0 ?_
      refine GoR.done ?_
      refine GoQ.pick [13, 4, 3, 2, 0] (S' := [(13, .bool (decide (((s.size : Nat) : Int) > 16))), (4, .int .u64 0), (3, .bool false), (2, .int .u64 0), (0, .string s)]) (by kernel_rfl) ?_
      exact GoQ.meet1 () (by first | rfl | (simp only [h1, Bool.not_true, Bool.not_false, Bool.true_or, Bool.false_or, Bool.true_and, Bool.false_and, Bool.or_true, Bool.or_false, Bool.and_true, Bool.and_false]; done) | (simp [h1]; done)) hs
  intro _ w2 hs3
  refine GoQ.thn ?_
  refine Xc (t := (decide (((s.size : Nat) : Int) < 1)) || (decide (((s.size : Nat) : Int) > 16))) (fun h4 => ?_) (fun h4 => ?_)
  · have hshort : s.size < 1 ∨ 16 < s.size := by simp only [Bool.or_eq_true, decide_eq_true_eq] at h4; omega
    refine GoC.seq ?_
    refine Xt (.rd 0 (.rd 1 .done)) ?_
    refine Xk [(0, .gen []), (1, .gen [])] [] [(3, .bool false), (2, .int .u64 0), (4, .int .u64 0), (0, .string s)] ak0 ?_
    refine GoR.done (GoQ.thn (GoC.ret (GoQ.skipCR ?_)))
    refine X2 (v := .int .u64 0) (v' := .bool false) ?_
    exact ⟨(by rw [num, if_neg (fun hc => by omega)]), hs3⟩
  · have h4a : (decide (((s.size : Nat) : Int) < 1)) = false := (Bool.or_eq_false_iff.1 h4).1
    have h4a' : ¬ (((s.size : Nat) : Int) < 1) := of_decide_eq_false h4a
    have h4b : (decide (((s.size : Nat) : Int) > 16)) = false := (Bool.or_eq_false_iff.1 h4).2
    have h4b' : ¬ (((s.size : Nat) : Int) > 16) := of_decide_eq_false h4b
    refine GoC.skip (GoQ.thn (GoC.seq (GoC.seq ?_)))
    refine Xt (.rd 0 .done) ?_
    refine Xk [(0, .gen [])] [] [(5, .int .i64 0), (4, .int .u64 0), (3, .bool false), (2, .int .u64 0), (0, .string s)] ak0 ?_
    refine GoR.done (GoQ.thn (GoC.block ?_))
    refine GoC.loop (T := Nat × Int) (fun gg => [(0, .string s), (4, .int .u64 gg.2), (5, .int .i64 (gg.1 : Nat))]) (fun gg w => ((gg.1 ≤ s.size ∧ gg.2 = (nvl (s.data.toList.take gg.1) : Nat)) ∧ (s.data.toList.take gg.1).all isDig = true) ∧ St w0 (L) w) (fun gg => s.size - gg.1) (0, 0) [0, 4, 5] (by kernel_rfl) ⟨⟨⟨Nat.zero_le _, rfl⟩, rfl⟩, hs3⟩ ?_
    rintro ⟨k, n⟩ w5 ⟨hp0, hs6⟩
    have hp : (k ≤ s.size ∧ n = (nvl (s.data.toList.take k) : Nat)) ∧ (s.data.toList.take k).all isDig = true := hp0
    have hs7 : St w0 (L) w5 := hs6
    refine GoC.slots (S' := [(0, .string s), (4, .int .u64 n), (5, .int .i64 (k : Nat))]) rfl ?_
    refine GoC.seq (GoC.seq ?_)
    refine Xt (.rd 0 (.rd 1 (.rd 2 (.rd 3 .done)))) ?_
    refine Xk [(0, .gen []), (1, .gen []), (2, .gen []), (3, .gen [])] [] [(17, .bool (decide (((k : Nat) : Int) < (s.size : Nat)))), (0, .string s), (4, .int .u64 n), (5, .int .i64 (k : Nat))] ak0 ?_
    refine GoR.done (GoQ.thn ?_)
    refine Xc (t := decide (((k : Nat) : Int) < (s.size : Nat))) (fun h8 => ?_) (fun h8 => ?_)
    · have h8' : ((k : Nat) : Int) < (s.size : Nat) := of_decide_eq_true h8
      have hk : k < s.size := by omega
      have hkl : k < s.data.toList.length := hk
      have hb := bat_lt s k
      have hnv := nvl_lt hp.2
      have hln : (s.data.toList.take k).length ≤ 15 := by rw [List.length_take]; omega
      have hpw : 10 ^ (s.data.toList.take k).length ≤ 10 ^ 15 := Nat.pow_le_pow_right (by decide) hln
      have hn9 := hp.1.2
      refine GoC.skip (GoQ.thn (GoC.seq (GoC.block (GoC.seq (GoC.seq ?_)))))
      refine GoC.join (T := Unit) (E := fun _ => [(29, .bool ((decide (((bat s k : Nat) : Int) < 48)) || (decide (((bat s k : Nat) : Int) > 57)))), (0, .string s), (4, .int .u64 n), (5, .int .i64 (k : Nat))]) (F := fun _ w => St w0 (L) w) ?_ ?_
      · refine Xt (.rd 0 (.rd 1 (.rd 2 (.rd 3 (.rd 4 (.rd 5 (.rd 6 (.rd 7 (.rd 8 (.rd 9 .done)))))))))) ?_
        refine Xk [(0, .gen []), (1, .gen []), (2, .as_ (.int .u8 (bat s k : Nat)) (.byte (s.data.getD k 0))), (3, .gen []), (4, .gen [])] [(2, [.prop (0 ≤ ((k : Nat) : Int) ∧ s[((k : Nat) : Int).toNat]? = some (s.data.getD k 0)), .prop (Value.int .u8 ((s.data.getD k 0).toNat : Int) = Value.int .u8 (bat s k : Nat))])] [(24, .bool (decide (((bat s k : Nat) : Int) < 48))), (0, .string s), (4, .int .u64 n), (5, .int .i64 (k : Nat))] (ak (okp (batOk (by omega) (by omega)) (okp rfl ok0)) ak0) ?_
        rcases Bool.eq_false_or_eq_true (decide (((bat s k : Nat) : Int) < 48)) with h9 | h9
        · refine Xs 24 true h9 ?_
          have h9' : ((bat s k : Nat) : Int) < 48 := of_decide_eq_true h9
          refine Xk [(5, .gen []), (6, .gen []), (7, .gen []), (8, .gen []), (9, .gen [])] [] [(29, .bool true), (0, .string s), (4, .int .u64 n), (5, .int .i64 (k : Nat))] ak0 ?_
          refine GoR.done ?_
          refine GoQ.pick [29, 0, 4, 5] (S' := [(29, .bool true), (0, .string s), (4, .int .u64 n), (5, .int .i64 (k : Nat))]) (by kernel_rfl) ?_
          exact GoQ.meet1 () (by first | rfl | (simp only [h9, Bool.not_true, Bool.not_false, Bool.true_or, Bool.false_or, Bool.true_and, Bool.false_and, Bool.or_true, Bool.or_false, Bool.and_true, Bool.and_false]; done) | (simp [h9]; done)) hs7
        · refine Xs 24 false h9 ?_
          have h9' : ¬ (((bat s k : Nat) : Int) < 48) := of_decide_eq_false h9
          refine Xk [(5, .gen []), (6, .gen []), (7, .as_ (.int .u8 (bat s k : Nat)) (.byte (s.data.getD k 0))), (8, .gen []), (9, .gen [])] [(7, [.prop (0 ≤ ((k : Nat) : Int) ∧ s[((k : Nat) : Int).toNat]? = some (s.data.getD k 0)), .prop (Value.int .u8 ((s.data.getD k 0).toNat : Int) = Value.int .u8 (bat s k : Nat))])] [(29, .bool (decide (((bat s k : Nat) : Int) > 57))), (0, .string s), (4, .int .u64 n), (5, .int .i64 (k : Nat))] (ak (okp (batOk (by omega) (by omega)) (okp rfl ok0)) ak0) ?_
          refine GoR.done ?_
          refine GoQ.pick [29, 0, 4, 5] (S' := [(29, .bool (decide (((bat s k : Nat) : Int) > 57))), (0, .string s), (4, .int .u64 n), (5, .int .i64 (k : Nat))]) (by kernel_rfl) ?_
          exact GoQ.meet1 () (by first | rfl | (simp only [h9, Bool.not_true, Bool.not_false, Bool.true_or, Bool.false_or, Bool.true_and, Bool.false_and, Bool.or_true, Bool.or_false, Bool.and_true, Bool.and_false]; done) | (simp [h9]; done)) hs7
      intro _ w10 hs11
      refine GoQ.thn ?_
      refine Xc (t := (decide (((bat s k : Nat) : Int) < 48)) || (decide (((bat s k : Nat) : Int) > 57))) (fun h12 => ?_) (fun h12 => ?_)
      · refine GoC.seq ?_
        refine Xt (.rd 0 (.rd 1 .done)) ?_
        refine Xk [(0, .gen []), (1, .gen [])] [] [(3, .bool false), (2, .int .u64 0), (0, .string s), (4, .int .u64 n), (5, .int .i64 (k : Nat))] ak0 ?_
        refine GoR.done (GoQ.thn (GoC.ret (GoQ.skipCR (GoQ.blkR (GoQ.skipCR (GoQ.skipLR (GoQ.blkR (GoQ.skipCR ?_))))))))
        refine X2 (v := .int .u64 0) (v' := .bool false) ?_
        exact ⟨(by rw [num_bad hkl (by simp only [Bool.or_eq_true, decide_eq_true_eq] at h12; omega)]), hs11⟩
      · have h12a : (decide (((bat s k : Nat) : Int) < 48)) = false := (Bool.or_eq_false_iff.1 h12).1
        have h12a' : ¬ (((bat s k : Nat) : Int) < 48) := of_decide_eq_false h12a
        have h12b : (decide (((bat s k : Nat) : Int) > 57)) = false := (Bool.or_eq_false_iff.1 h12).2
        have h12b' : ¬ (((bat s k : Nat) : Int) > 57) := of_decide_eq_false h12b
        refine GoC.skip (GoQ.thn ?_)
        refine Xt (.rd 0 (.rd 1 (.rd 2 (.rd 3 (.rd 4 (.rd 5 (.rd 6 (.rd 7 (.rd 8 .done))))))))) ?_
        refine Xk [(0, .gen []), (1, .as_ (.int .u64 (10 * n)) (.gen [])), (2, .gen []), (3, .gen []), (4, .as_ (.int .u8 (bat s k : Nat)) (.byte (s.data.getD k 0))), (5, .as_ (.int .u8 ((bat s k : Nat) - 48)) (.gen [])), (6, .as_ (.int .u64 ((bat s k : Nat) - 48)) (.gen [])), (7, .as_ (.int .u64 ((10 * n) + ((bat s k : Nat) - 48))) (.gen [])), (8, .gen [])] [(1, [.prop (Value.int .u64 (IntKind.u64.wrap (10 * n)) = Value.int .u64 (10 * n))]), (4, [.prop (0 ≤ ((k : Nat) : Int) ∧ s[((k : Nat) : Int).toNat]? = some (s.data.getD k 0)), .prop (Value.int .u8 ((s.data.getD k 0).toNat : Int) = Value.int .u8 (bat s k : Nat))]), (5, [.prop (Value.int .u8 (IntKind.u8.wrap ((bat s k : Nat) - 48)) = Value.int .u8 ((bat s k : Nat) - 48))]), (6, [.prop (Value.int .u64 (IntKind.u64.wrap ((bat s k : Nat) - 48)) = Value.int .u64 ((bat s k : Nat) - 48))]), (7, [.prop (Value.int .u64 (IntKind.u64.wrap ((10 * n) + ((bat s k : Nat) - 48))) = Value.int .u64 ((10 * n) + ((bat s k : Nat) - 48)))])] [(4, .int .u64 ((10 * n) + ((bat s k : Nat) - 48))), (0, .string s), (5, .int .i64 (k : Nat))] (ak (okp (u64ok (by omega) (by omega)) ok0) (ak (okp (batOk (by omega) (by omega)) (okp rfl ok0)) (ak (okp (u8ok (by omega) (by omega)) ok0) (ak (okp (u64ok (by omega) (by omega)) ok0) (ak (okp (u64ok (by omega) (by omega)) ok0) ak0))))) ?_
        refine GoR.done (GoQ.blkN (GoQ.thn ?_))
        refine Xt (.rd 0 (.rd 1 (.rd 2 .done))) ?_
        refine Xk [(0, .gen []), (1, .as_ (.int .i64 ((k : Nat) + 1)) (.gen [])), (2, .gen [])] [(1, [.prop (Value.int .i64 (IntKind.i64.wrap ((k : Nat) + 1)) = Value.int .i64 ((k : Nat) + 1))])] [(5, .int .i64 ((k : Nat) + 1)), (4, .int .u64 ((10 * n) + ((bat s k : Nat) - 48))), (0, .string s)] (ak (okp (i64ok (by omega) (by omega)) ok0) ak0) ?_
        refine GoR.done ?_
        have hn2 : (10 * n) + ((bat s k : Nat) - 48) = ((nvl (s.data.toList.take (k + 1)) : Nat) : Int) := by
          rw [take_succ_getD (d := 0) hkl, nvl_snoc, ← bat_list]
          omega
        have ha2 : (s.data.toList.take (k + 1)).all isDig = true := by
          rw [take_succ_getD (d := 0) hkl, List.all_append, hp.2]
          simp only [List.all_cons, List.all_nil, Bool.and_true, Bool.true_and, isDig, Bool.and_eq_true, decide_eq_true_eq, ← bat_list]
          omega
        exact GoQ.back (k + 1, (10 * n) + ((bat s k : Nat) - 48)) [0, 4, 5] (by kernel_rfl) (by show s.size - (k + 1) < s.size - k; omega) ⟨⟨⟨by omega, hn2⟩, ha2⟩, hs11⟩
    · have h8' : ¬ (((k : Nat) : Int) < (s.size : Nat)) := of_decide_eq_false h8
      have hall : s.data.toList.take k = s.data.toList := List.take_of_length_le (by rw [size_list]; omega)
      have hp1 := hp.1.2
      have hp2 := hp.2
      rw [hall] at hp1 hp2
      have hnv := nvl_lt hp2
      have hpw : 10 ^ s.data.toList.length ≤ 10 ^ 16 := Nat.pow_le_pow_right (by decide) (by rw [size_list]; omega)
      have hns : num s = (n, decide (n ≤ 1125899906842624) && decide (dec n = s)) := by rw [num, if_pos ⟨by omega, by omega, hp2⟩, ← hp1]
      refine GoC.exit (GoQ.skipC (GoQ.skipL (GoQ.hit (GoQ.thn (GoC.seq ?_)))))
      refine Xt (.rd 0 (.rd 1 (.rd 2 (.rd 3 (.rd 4 (.ef 5 (.rd 6 (.rd 7 (.rd 8 (.rd 9 (.rd 10 .done))))))))))) ?_
      refine Xk [(0, .gen []), (1, .gen []), (2, .gen []), (3, .gen [])] [] [(41, .bool (decide ((n : Int) ≤ 1125899906842624))), (38, .int .u64 n), (0, .string s), (4, .int .u64 n)] ak0 ?_
      rcases Bool.eq_false_or_eq_true (decide ((n : Int) ≤ 1125899906842624)) with h13 | h13
      · refine Xs 41 true h13 ?_
        have h13' : (n : Int) ≤ 1125899906842624 := of_decide_eq_true h13
        refine Xk [(4, .gen [])] [] [(42, .int .u64 n), (41, .bool true), (38, .int .u64 n), (0, .string s)] ak0 ?_
        refine Xa (f := 80) (args := #[.int .u64 n]) Tryz.call80 (digits_spec n (by first | assumption | omega) (by first | assumption | omega) hs7) ?_
        rintro v15 w16 ⟨rfl, hs14⟩
        refine ⟨Xo, ?_⟩
        refine Xk [(6, .gen []), (7, .as_ (.bool (decide ((dec n) = s))) (.gen [])), (8, .gen []), (9, .gen []), (10, .gen [])] [(7, [.prop (Value.bool ((dec n).toList == s.toList) = Value.bool (decide ((dec n) = s)))])] [(3, .bool (decide ((dec n) = s))), (2, .int .u64 n)] (ak (okp (seq _ _) ok0) ak0) ?_
        refine GoR.done (GoQ.thn (GoC.ret ?_))
        refine X2 (v := .int .u64 n) (v' := .bool (decide ((dec n) = s))) ?_
        exact ⟨(by rw [hns]; first | rfl | (simp_all; done) | (simp_all; intros; omega)), hs14⟩
      · refine Xs 41 false h13 ?_
        have h13' : ¬ ((n : Int) ≤ 1125899906842624) := of_decide_eq_false h13
        refine Xk [(4, .gen [])] [] [(42, undef), (41, .bool false), (38, .int .u64 n), (0, .string s)] ak0 ?_
        refine GoR.skip rfl (by kernel_rfl) Xo ?_
        refine Xk [(6, .gen []), (7, .gen []), (8, .gen []), (9, .gen []), (10, .gen [])] [] [(3, .bool false), (2, .int .u64 n)] ak0 ?_
        refine GoR.done (GoQ.thn (GoC.ret ?_))
        refine X2 (v := .int .u64 n) (v' := .bool false) ?_
        exact ⟨(by rw [hns]; first | rfl | (simp_all; done) | (simp_all; intros; omega)), hs7⟩
end Go.Proofs.YtbmmknchcdhefaaGreatDoor
