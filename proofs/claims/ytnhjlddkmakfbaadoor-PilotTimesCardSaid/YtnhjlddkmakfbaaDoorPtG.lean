/-
  Package pilot: Look behind the end; Odd. Conditions: what ratchet/sha.table holds; 3, 5, 7, 9 or 11 replicas.
-/
import Derived.Test.YtnhjlddkmakfbaaDoorPtF
import Derived.Test.YtnhjlddkmakfbaaDoorPtW
namespace Go.Proofs.YtnhjlddkmakfbaaDoor
open Go.RowKit Go.Sx Go.Ev
set_option linter.unusedVariables false
set_option linter.unusedSimpArgs false
set_option linter.unnecessarySimpa false
set_option maxRecDepth 100000
theorem pilLookF_spec {w0 w : World} {L : List Asn} {p : Nat} {cp : Nat} {r : Nat} (k : Nat) (fav : Int) (span : Int) (at_ : Int) (dv : Value) (t : Int) (hk : k ∈ ksL) (hG : GOK tabG w0 L) (hs : St w0 ((Cel p #[.pointer (some ⟨cp, 0, none⟩), .int .i64 (k : Nat), .int .i64 fav, .int .u64 span, .int .u64 at_, dv, .map (some r)] 54) :: (CelE cp (clV (clJ k ((k - 1) / 2 + 1)))) :: L) w) : Calls Tryd.prog 8 #[.pointer (some ⟨p, 0, none⟩), .int .u64 t] w (Ret fun rv w' => rv = .slice none 0 0 ∧ St w0 ((Cel p #[.pointer (some ⟨cp, 0, none⟩), .int .i64 (k : Nat), .int .i64 fav, .int .u64 span, .int .u64 at_, dv, .map (some r)] 54) :: (CelE cp (clV (clJ k ((k - 1) / 2 + 1)))) :: L) w') := by
  refine enter (args := [.pointer (some ⟨p, 0, none⟩), .int .u64 t]) Tryd.func8 rfl Tryd.ntmps8 (Nat.le_of_ble_eq_true (by kernel_rfl)) ?_
  refine GoC.slots (S' := [(0, .pointer (some ⟨p, 0, none⟩)), (1, .int .u64 t)]) rfl ?_
  refine GoC.seq ?_
  refine GoC.regT [1] (.rd 0 .done) (by kernel_rfl) (by kernel_rfl) ?_
  refine GoR.phaseK [(0, .gen [])] [4, 0, 1] [] [(4, .slice none 0 0), (0, .pointer (some ⟨p, 0, none⟩)), (1, .int .u64 t)] (by kernel_rfl) rfl ak0 ?_
  refine GoR.done (GoQ.thn (GoC.seq ?_))
  refine GoC.regT [7, 7, 7] (.rd 0 (.rd 1 (.rd 2 .done))) (by kernel_rfl) (by kernel_rfl) ?_
  refine GoR.phaseK [(0, .gen []), (1, .as_ (.int .u64 (min t 4611686018427387904)) (.gen [])), (2, .gen [])] [1, 4, 0] [(1, [.prop (Value.int .u64 (if 4611686018427387904 < t then 4611686018427387904 else t) = Value.int .u64 (min t 4611686018427387904))])] [(1, .int .u64 (min t 4611686018427387904)), (4, .slice none 0 0), (0, .pointer (some ⟨p, 0, none⟩))] (by kernel_rfl) rfl (ak (okp minok ok0) ak0) ?_
  refine GoR.done (GoQ.thn (GoC.seq (GoC.seq ?_)))
  refine GoC.regT [255, 255, 255, 255, 255, 255, 255, 255] (.rd 0 (.ef 1 (.rd 2 (.rd 3 (.rd 4 (.ef 5 (.ef 6 (.rd 7 .done)))))))) (by kernel_rfl) (by kernel_rfl) ?_
  refine GoR.phaseK [(0, .gen [])] [10, 1, 4, 0] [] [(10, .pointer (some ⟨p, 0, none⟩)), (1, .int .u64 (min t 4611686018427387904)), (4, .slice none 0 0), (0, .pointer (some ⟨p, 0, none⟩))] (by kernel_rfl) rfl ak0 ?_
  refine GoR.call rfl rfl (by kernel_rfl) (f := 10) (args := #[.pointer (some ⟨p, 0, none⟩)]) (by kernel_rfl) Tryd.call10 (pilPendF_spec k fav span at_ dv (by first | assumption | omega) hG hs) ?_
  rintro v2 w3 ⟨rfl, hs1⟩
  refine ⟨(opn (by kernel_rfl)), ?_⟩
  refine GoR.phaseK [(2, .gen []), (3, .gen []), (4, .gen [])] [13, 12, 1, 4, 0] [] [(13, .bool false), (12, .agg #[.int .i64 0, .int .u64 0, .int .u8 0, .string (⟨#[]⟩ : ByteArray), .string (⟨#[]⟩ : ByteArray), .string (⟨#[]⟩ : ByteArray), .string (⟨#[]⟩ : ByteArray), .int .u64 0, .int .u8 0, .int .u8 0, .int .u8 0, .int .u8 0, .int .u8 0, .int .u8 0, .int .u8 0, .int .u8 0, .int .u8 0, .int .u8 0, .int .u8 0, .int .u8 0, .int .u8 0, .int .u8 0, .int .u8 0, .int .u8 0, .int .u8 0, .int .u8 0, .int .u8 0, .int .u8 0, .int .u8 0, .int .u8 0, .int .u8 0, .int .u8 0, .int .u8 0, .int .u8 0, .int .u8 0, .int .u8 0, .int .u8 0, .int .u8 0, .int .u8 0, .int .u8 0]), (1, .int .u64 (min t 4611686018427387904)), (4, .slice none 0 0), (0, .pointer (some ⟨p, 0, none⟩))] (by kernel_rfl) rfl ak0 ?_
  refine GoR.alloc rfl rfl (by kernel_rfl) (z := .agg #[.int .i64 0, .int .u64 0, .int .u8 0, .string (⟨#[]⟩ : ByteArray), .string (⟨#[]⟩ : ByteArray), .string (⟨#[]⟩ : ByteArray), .string (⟨#[]⟩ : ByteArray), .int .u64 0, .int .u8 0, .int .u8 0, .int .u8 0, .int .u8 0, .int .u8 0, .int .u8 0, .int .u8 0, .int .u8 0, .int .u8 0, .int .u8 0, .int .u8 0, .int .u8 0, .int .u8 0, .int .u8 0, .int .u8 0, .int .u8 0, .int .u8 0, .int .u8 0, .int .u8 0, .int .u8 0, .int .u8 0, .int .u8 0, .int .u8 0, .int .u8 0, .int .u8 0, .int .u8 0, .int .u8 0, .int .u8 0, .int .u8 0, .int .u8 0, .int .u8 0, .int .u8 0]) (by kernel_rfl) hs1 (cs := #[.int .i64 0, .int .u64 0, .int .u8 0, .string (⟨#[]⟩ : ByteArray), .string (⟨#[]⟩ : ByteArray), .string (⟨#[]⟩ : ByteArray), .string (⟨#[]⟩ : ByteArray), .int .u64 0, .int .u8 0, .int .u8 0, .int .u8 0, .int .u8 0, .int .u8 0, .int .u8 0, .int .u8 0, .int .u8 0, .int .u8 0, .int .u8 0, .int .u8 0, .int .u8 0, .int .u8 0, .int .u8 0, .int .u8 0, .int .u8 0, .int .u8 0, .int .u8 0, .int .u8 0, .int .u8 0, .int .u8 0, .int .u8 0, .int .u8 0, .int .u8 0, .int .u8 0, .int .u8 0, .int .u8 0, .int .u8 0, .int .u8 0, .int .u8 0, .int .u8 0, .int .u8 0]) (by kernel_rfl) ?_
  intro b4 w5 hs6
  refine ⟨(opn (by kernel_rfl)), ?_⟩
  refine GoR.store rfl rfl (by kernel_rfl) (b := b4) (off := 0) (v := .agg #[.int .i64 0, .int .u64 0, .int .u8 0, .string (⟨#[]⟩ : ByteArray), .string (⟨#[]⟩ : ByteArray), .string (⟨#[]⟩ : ByteArray), .string (⟨#[]⟩ : ByteArray), .int .u64 0, .int .u8 0, .int .u8 0, .int .u8 0, .int .u8 0, .int .u8 0, .int .u8 0, .int .u8 0, .int .u8 0, .int .u8 0, .int .u8 0, .int .u8 0, .int .u8 0, .int .u8 0, .int .u8 0, .int .u8 0, .int .u8 0, .int .u8 0, .int .u8 0, .int .u8 0, .int .u8 0, .int .u8 0, .int .u8 0, .int .u8 0, .int .u8 0, .int .u8 0, .int .u8 0, .int .u8 0, .int .u8 0, .int .u8 0, .int .u8 0, .int .u8 0, .int .u8 0]) (by kernel_rfl) (by kernel_rfl) (ti := Tryd.t34) (by kernel_rfl) hs6 0 rfl (by kernel_rfl) (by kernel_rfl) (Nat.le_of_ble_eq_true (by kernel_rfl)) (cs' := #[.int .i64 0, .int .u64 0, .int .u8 0, .string (⟨#[]⟩ : ByteArray), .string (⟨#[]⟩ : ByteArray), .string (⟨#[]⟩ : ByteArray), .string (⟨#[]⟩ : ByteArray), .int .u64 0, .int .u8 0, .int .u8 0, .int .u8 0, .int .u8 0, .int .u8 0, .int .u8 0, .int .u8 0, .int .u8 0, .int .u8 0, .int .u8 0, .int .u8 0, .int .u8 0, .int .u8 0, .int .u8 0, .int .u8 0, .int .u8 0, .int .u8 0, .int .u8 0, .int .u8 0, .int .u8 0, .int .u8 0, .int .u8 0, .int .u8 0, .int .u8 0, .int .u8 0, .int .u8 0, .int .u8 0, .int .u8 0, .int .u8 0, .int .u8 0, .int .u8 0, .int .u8 0]) (L' := (Cel b4 #[.int .i64 0, .int .u64 0, .int .u8 0, .string (⟨#[]⟩ : ByteArray), .string (⟨#[]⟩ : ByteArray), .string (⟨#[]⟩ : ByteArray), .string (⟨#[]⟩ : ByteArray), .int .u64 0, .int .u8 0, .int .u8 0, .int .u8 0, .int .u8 0, .int .u8 0, .int .u8 0, .int .u8 0, .int .u8 0, .int .u8 0, .int .u8 0, .int .u8 0, .int .u8 0, .int .u8 0, .int .u8 0, .int .u8 0, .int .u8 0, .int .u8 0, .int .u8 0, .int .u8 0, .int .u8 0, .int .u8 0, .int .u8 0, .int .u8 0, .int .u8 0, .int .u8 0, .int .u8 0, .int .u8 0, .int .u8 0, .int .u8 0, .int .u8 0, .int .u8 0, .int .u8 0] 34) :: (Cel p #[.pointer (some ⟨cp, 0, none⟩), .int .i64 (k : Nat), .int .i64 fav, .int .u64 span, .int .u64 at_, dv, .map (some r)] 54) :: (CelE cp (clV (clJ k ((k - 1) / 2 + 1)))) :: L) (by kernel_rfl) rfl ?_
  intro w7 hs8
  refine ⟨(opn (by kernel_rfl)), ?_⟩
  refine GoR.phaseK [(7, .gen [])] [6, 1, 4, 0] [] [(6, .bool false), (1, .int .u64 (min t 4611686018427387904)), (4, .slice none 0 0), (0, .pointer (some ⟨p, 0, none⟩))] (by kernel_rfl) rfl ak0 ?_
  refine GoR.done (GoQ.thn (GoC.seq ?_))
  refine GoC.regT [1023, 1023, 1023, 1023, 1023, 1023, 1023, 1023, 1023, 1023] (.rd 0 (.rd 1 (.rd 2 (.rd 3 (.rd 4 (.rd 5 (.rd 6 (.rd 7 (.rd 8 (.rd 9 .done)))))))))) (by kernel_rfl) (by kernel_rfl) ?_
  refine GoR.phaseK [(0, .gen []), (1, .gen []), (2, .gen []), (3, .gen []), (4, .gen []), (5, .gen []), (6, .gen []), (7, .gen []), (8, .gen []), (9, .gen [])] [23, 1, 4, 0] [] [(23, .bool true), (1, .int .u64 (min t 4611686018427387904)), (4, .slice none 0 0), (0, .pointer (some ⟨p, 0, none⟩))] (by kernel_rfl) rfl ak0 ?_
  refine GoR.done (GoQ.thn (GoC.condT (by kernel_rfl) (GoC.seq ?_)))
  refine GoC.regT [1] (.rd 0 .done) (by kernel_rfl) (by kernel_rfl) ?_
  refine GoR.phaseK [(0, .gen [])] [4, 1, 0] [] [(4, .slice none 0 0), (1, .int .u64 (min t 4611686018427387904)), (0, .pointer (some ⟨p, 0, none⟩))] (by kernel_rfl) rfl ak0 ?_
  refine GoR.done (GoQ.thn (GoC.ret (GoQ.skipCR ?_)))
  refine GoQ.done (.inl rfl) (v := .slice none 0 0) (fun a hf => results1 rfl (by kernel_rfl) a hf) ?_
  have hs9 : St w0 ((Cel p #[.pointer (some ⟨cp, 0, none⟩), .int .i64 (k : Nat), .int .i64 fav, .int .u64 span, .int .u64 at_, dv, .map (some r)] 54) :: (CelE cp (clV (clJ k ((k - 1) / 2 + 1)))) :: L) w7 := hs8.drop 1
  exact ⟨rfl, hs9⟩
theorem odd_spec {w0 w : World} {L : List Asn} (n : Int) (hn : 0 ≤ n ∧ n ≤ 255) (hs : St w0 (L) w) : Calls Tryd.prog 5 #[.int .u8 n] w (Ret fun rv w' => ∃ (k : Nat), rv = .int .i64 (k : Nat) ∧ k ∈ ksL ∧ St w0 (L) w') := by
  refine enter (args := [.int .u8 n]) Tryd.func5 rfl Tryd.ntmps5 (Nat.le_of_ble_eq_true (by kernel_rfl)) ?_
  refine GoC.slots (S' := [(0, .int .u8 n)]) rfl ?_
  refine GoC.seq ?_
  refine GoC.regT [1] (.rd 0 .done) (by kernel_rfl) (by kernel_rfl) ?_
  refine GoR.phaseK [(0, .gen [])] [2, 0] [] [(2, .int .i64 0), (0, .int .u8 n)] (by kernel_rfl) rfl ak0 ?_
  refine GoR.done (GoQ.thn (GoC.seq ?_))
  refine GoC.regT [63, 63, 63, 63, 63, 63] (.rd 0 (.rd 1 (.rd 2 (.rd 3 (.rd 4 (.rd 5 .done)))))) (by kernel_rfl) (by kernel_rfl) ?_
  refine GoR.phaseK [(0, .gen []), (1, .div (n % 5)), (2, .as_ (.int .i64 (n % 5)) (.gen [])), (3, .as_ (.int .i64 (2 * (n % 5))) (.gen [])), (4, .as_ (.int .i64 (3 + (2 * (n % 5)))) (.gen [])), (5, .gen [])] [2] [(1, [.prop (IntKind.u8 = IntKind.u8 ∧ (5 : Int) ≠ 0 ∧ Int.tmod n 5 = n % 5)]), (2, [.prop (Value.int .i64 (IntKind.i64.wrap (n % 5)) = Value.int .i64 (n % 5))]), (3, [.prop (Value.int .i64 (IntKind.i64.wrap (2 * (n % 5))) = Value.int .i64 (2 * (n % 5)))]), (4, [.prop (Value.int .i64 (IntKind.i64.wrap (3 + (2 * (n % 5)))) = Value.int .i64 (3 + (2 * (n % 5))))])] [(2, .int .i64 (3 + (2 * (n % 5))))] (by kernel_rfl) rfl (ak (okp ⟨rfl, by decide, Int.tmod_eq_emod_of_nonneg (by first | omega | exact Int.natCast_nonneg _)⟩ ok0) (ak (okp (i64ok (by omega) (by omega)) ok0) (ak (okp (i64ok (by omega) (by omega)) ok0) (ak (okp (i64ok (by omega) (by omega)) ok0) ak0)))) ?_
  refine GoR.done (GoQ.thn (GoC.ret ?_))
  refine GoQ.done (.inl rfl) (v := .int .i64 (3 + (2 * (n % 5)))) (fun a hf => results1 rfl (by kernel_rfl) a hf) ?_
  exact ⟨(3 + (2 * (n % 5))).toNat, (by show Value.int _ _ = Value.int _ _; congr 1; omega), (by simp only [ksL, List.mem_cons, List.not_mem_nil, or_false]; omega), hs⟩
theorem pilHearAny_spec {w0 w : World} {L : List Asn} {p : Nat} {cp : Nat} {r : Nat} (k : Nat) (span : Int) (at_ : Int) (dv : Value) (m : List (Int × ToldV)) (y : Nat) (hk : k ∈ ksL) (hj : y < (k - 1) / 2 + 1) (hG : GOK tabG w0 L) (hs : St w0 ((Cel p #[.pointer (some ⟨cp, 0, none⟩), .int .i64 (k : Nat), .int .i64 1, .int .u64 span, .int .u64 at_, dv, .map (some r)] 54) :: (MapA ekI evT r m) :: (CelE cp (clV (clJ k y))) :: L) w) : Calls Tryd.prog 9 #[.pointer (some ⟨p, 0, none⟩), .int .i64 (y + 1 : Nat), .agg #[.int .i64 3, .int .u64 1, .int .i64 0, .string (⟨#[]⟩ : ByteArray), .int .u64 1]] w (Ret fun rv w' => ∃ (mo : List (Int × ToldV)) (fo : Int) (b : Bool), rv = .tuple #[.agg #[.int .i64 0, .string (⟨#[]⟩ : ByteArray)], .bool b] ∧ (y + 1 < (k - 1) / 2 + 1 → fo = 1) ∧ St w0 ((Cel p #[.pointer (some ⟨cp, 0, none⟩), .int .i64 (k : Nat), .int .i64 fo, .int .u64 span, .int .u64 at_, dv, .map (some r)] 54) :: (MapA ekI evT r mo) :: (CelE cp (clV (clJ k (y + 1)))) :: L) w') := by
  rcases Nat.lt_or_ge y ((k - 1) / 2) with h | h
  · refine Calls.ret (pilHear_spec k span at_ dv m y hk h hG hs) ?_
    rintro v w' ⟨mo, rfl, h2⟩
    exact ⟨mo, 1, false, rfl, fun _ => rfl, h2⟩
  · obtain rfl : y = (k - 1) / 2 := by omega
    refine Calls.ret (pilHearF_spec k span at_ dv m hk hG hs) ?_
    rintro v w' ⟨mo, fo, rfl, h2⟩
    exact ⟨mo, fo, true, rfl, fun h => absurd h (by omega), h2⟩
end Go.Proofs.YtnhjlddkmakfbaaDoor
