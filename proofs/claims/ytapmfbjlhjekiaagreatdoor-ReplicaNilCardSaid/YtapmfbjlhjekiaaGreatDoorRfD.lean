/-
  The reference's put, Word, Half, Text, with, Of, key, Client, by shape. Conditions: none beside each theorem's own.
-/
import Derived.Test.YtapmfbjlhjekiaaGreatDoorRfC
namespace Go.Proofs.YtapmfbjlhjekiaaGreatDoor
open Go.RowKit Go.Sx
set_option linter.unusedVariables false
set_option linter.unusedSimpArgs false
set_option linter.unnecessarySimpa false
set_option maxRecDepth 100000
theorem rput_spec {w0 w : World} {L : List Asn} {ad : Option Addr} {c : Nat} (l : List Int) (n : Int) (k : Nat) (hl : l.length ≤ 50000) (hk : k ≤ 8) (hn : ad = none → c = 0) (hr : ∀ w, St w0 L w → RowsAt w ad l.length 1 (fun k => byteV (l.getD k (0 : Int)))) (hs : St w0 (L) w) : Calls Tryz.prog 151 #[.slice ad l.length c, .int .u64 n, .int .i64 (k : Nat)] w (Ret fun rv w' => ∃ (ao : Option Addr) (co : Nat) (ol : List Int), rv = .slice ao ol.length co ∧ ol.length = l.length + k ∧ St w0 ((Sl ao co 5 1 byteV ol) :: L) w') := by
  refine enter (args := [.slice ad l.length c, .int .u64 n, .int .i64 (k : Nat)]) Tryz.func151 rfl Tryz.ntmps151 (Nat.le_of_ble_eq_true (by kernel_rfl)) ?_
  refine GoC.slots (S' := [(0, .slice ad l.length c), (1, .int .u64 n), (2, .int .i64 (k : Nat))]) rfl ?_
  refine GoC.seq ?_
  refine GoC.regT [1] (.rd 0 .done) (by kernel_rfl) (by kernel_rfl) ?_
  refine GoR.phaseK [(0, .gen [])] [6, 0, 1, 2] [] [(6, .slice none 0 0), (0, .slice ad l.length c), (1, .int .u64 n), (2, .int .i64 (k : Nat))] (by kernel_rfl) rfl ak0 ?_
  refine GoR.done (GoQ.thn (GoC.seq ?_))
  refine GoC.regT [15, 15, 15, 15] (.ef 0 (.rd 1 (.ef 2 (.rd 3 .done)))) (by kernel_rfl) (by kernel_rfl) ?_
  refine GoR.sliceLit0 rfl (by kernel_rfl) (t := 87) (e := 5) (by kernel_rfl) (by kernel_rfl) (ti := Tryz.t5) (by kernel_rfl) hs ?_
  intro b1 w2 hs3 hz4
  have hs5 : St w0 ((Sl (some ⟨b1, 0, none⟩) 0 5 1 byteV ([] : List Int)) :: L) w2 := St.slOf (l := ([] : List Int)) (f := byteV) hs3 hz4 (rbF).size (by simp only [List.length_cons, List.length_nil, maxLen]; omega) (by kernel_rfl)
  refine ⟨(opn (by kernel_rfl)), ?_⟩
  refine GoR.phaseK [(1, .gen [])] [10, 9, 6, 1, 2] [] [(10, .slice ad l.length c), (9, .slice (some ⟨b1, 0, none⟩) 0 0), (6, .slice none 0 0), (1, .int .u64 n), (2, .int .i64 (k : Nat))] (by kernel_rfl) rfl ak0 ?_
  refine GoR.append rfl (by kernel_rfl) rbOK rbF (ad := some ⟨b1, 0, none⟩) (c := 0) (xs := ([] : List Int)) (ys := l) (adx := ad) (cx := c) (0 : Int) (by kernel_rfl) hs5 (hr _ (hs5.drop 1)) hn (by first | omega | (simp only [List.length_append, List.length_cons, List.length_nil, strB_length]; omega)) (by first | omega | (simp only [List.length_append, List.length_cons, List.length_nil, strB_length]; omega)) ?_
  intro ad8 c9 w6 hs7
  refine ⟨(opn (by kernel_rfl)), ?_⟩
  refine GoR.phaseK [(3, .gen [])] [7, 6, 1, 2] [] [(7, .slice ad8 ((l).length) c9), (6, .slice none 0 0), (1, .int .u64 n), (2, .int .i64 (k : Nat))] (by kernel_rfl) rfl ak0 ?_
  refine GoR.done (GoQ.thn (GoC.seq (GoC.seq ?_)))
  refine GoC.regT [7, 7, 7] (.rd 0 (.rd 1 (.rd 2 .done))) (by kernel_rfl) (by kernel_rfl) ?_
  refine GoR.phaseK [(0, .gen []), (1, .as_ (.int .i64 ((k : Nat) - 1)) (.gen [])), (2, .gen [])] [8, 7, 6, 1] [(1, [.prop (Value.int .i64 (IntKind.i64.wrap ((k : Nat) - 1)) = Value.int .i64 ((k : Nat) - 1))])] [(8, .int .i64 ((k : Nat) - 1)), (7, .slice ad8 ((l).length) c9), (6, .slice none 0 0), (1, .int .u64 n)] (by kernel_rfl) rfl (ak (okp (i64ok (by omega) (by omega)) ok0) ak0) ?_
  refine GoR.done (GoQ.thn (GoC.block ?_))
  refine GoC.loop (T := Nat × Int × (List Int) × (Option Addr) × Nat) (fun gg => [(1, .int .u64 n), (6, .slice none 0 0), (7, .slice gg.2.2.2.1 gg.2.2.1.length gg.2.2.2.2), (8, .int .i64 gg.2.1)]) (fun gg w => (gg.1 ≤ k ∧ gg.2.1 = (k : Int) - 1 - (gg.1 : Nat) ∧ gg.2.2.1.length = l.length + gg.1) ∧ St w0 ((Sl gg.2.2.2.1 gg.2.2.2.2 5 1 byteV gg.2.2.1) :: L) w) (fun gg => k - gg.1) (0, ((k : Nat) - 1), l, ad8, c9) [1, 6, 7, 8] (by kernel_rfl) ⟨⟨Nat.zero_le _, by first | omega | (simp only; omega), by first | rfl | (simp only [List.length_append, List.length_nil]; omega)⟩, hs7⟩ ?_
  rintro ⟨y1, z1, q1, ad1, c1⟩ w10 ⟨hpa0, hs11⟩
  have hpa : y1 ≤ k ∧ z1 = (k : Int) - 1 - (y1 : Nat) ∧ q1.length = l.length + y1 := hpa0
  have hs12 : St w0 ((Sl ad1 c1 5 1 byteV q1) :: L) w10 := hs11
  refine GoC.slots (S' := [(1, .int .u64 n), (6, .slice none 0 0), (7, .slice ad1 q1.length c1), (8, .int .i64 z1)]) rfl ?_
  refine GoC.seq (GoC.seq ?_)
  refine GoC.regT [3, 3] (.rd 0 (.rd 1 .done)) (by kernel_rfl) (by kernel_rfl) ?_
  refine GoR.phaseK [(0, .gen []), (1, .gen [])] [15, 1, 6, 7, 8] [] [(15, .bool (decide ((z1 : Int) ≥ 0))), (1, .int .u64 n), (6, .slice none 0 0), (7, .slice ad1 q1.length c1), (8, .int .i64 z1)] (by kernel_rfl) rfl ak0 ?_
  refine GoR.done (GoQ.thn ?_)
  refine GoC.cond (t := decide ((z1 : Int) ≥ 0)) (by kernel_rfl) (fun h13 => ?_) (fun h13 => ?_)
  · have h13' : (z1 : Int) ≥ 0 := of_decide_eq_true h13
    refine GoC.skip (GoQ.thn (GoC.seq (GoC.block ?_)))
    refine GoC.regT [1023, 1023, 1023, 1023, 1023, 1023, 1023, 1023, 1023, 1023] (.rd 0 (.rd 1 (.rd 2 (.rd 3 (.rd 4 (.rd 5 (.rd 6 (.ef 7 (.ef 8 (.rd 9 .done)))))))))) (by kernel_rfl) (by kernel_rfl) ?_
    refine GoR.phaseK [(0, .gen []), (1, .gen []), (2, .gen []), (3, .as_ (.int .i64 (8 * z1)) (.gen [])), (4, .gen []), (5, .shift (iShr .u64 n (IntKind.u64.wrap (8 * z1)))), (6, .gen [])] [24, 18, 1, 6, 7, 8] [(3, [.prop (Value.int .i64 (IntKind.i64.wrap (8 * z1)) = Value.int .i64 (8 * z1))]), (5, [.prop ((0 : Int) ≤ IntKind.u64.wrap (8 * z1) ∧ Int.fdiv n (2 ^ (min (Int.toNat (IntKind.u64.wrap (8 * z1))) (IntKind.bits .u64))) = iShr .u64 n (IntKind.u64.wrap (8 * z1)))])] [(24, .int .u8 (IntKind.u8.wrap (iShr .u64 n (IntKind.u64.wrap (8 * z1))))), (18, .slice ad1 q1.length c1), (1, .int .u64 n), (6, .slice none 0 0), (7, .slice ad1 q1.length c1), (8, .int .i64 z1)] (by kernel_rfl) rfl (ak (okp (i64ok (by omega) (by omega)) ok0) (ak (okp ⟨(by first | omega | exact uwrap_nn rfl _), rfl⟩ ok0) ak0)) ?_
    refine GoR.sliceLit rfl (by kernel_rfl) (t := 87) (e := 5) (n := 1) (ps := [(0, .int .u8 (IntKind.u8.wrap (iShr .u64 n (IntKind.u64.wrap (8 * z1)))))]) (by kernel_rfl) (by kernel_rfl) (ti := Tryz.t5) (z := .int .u8 0) (by kernel_rfl) (by kernel_rfl) (by decide) (by decide) (cs := #[.int .u8 (IntKind.u8.wrap (iShr .u64 n (IntKind.u64.wrap (8 * z1))))]) (by kernel_rfl) hs12 ?_
    intro b14 w15 hs16 hz17
    have hs18 : St w0 ((Sl (some ⟨b14, 0, none⟩) 1 5 1 byteV ([(IntKind.u8.wrap (iShr .u64 n (IntKind.u64.wrap (8 * z1))) : Int)])) :: (Sl ad1 c1 5 1 byteV q1) :: L) w15 := St.slOf (l := [(IntKind.u8.wrap (iShr .u64 n (IntKind.u64.wrap (8 * z1))) : Int)]) (f := byteV) hs16 hz17 (rbF).size (by simp only [List.length_cons, List.length_nil, maxLen]; omega) (by kernel_rfl)
    refine ⟨(opn (by kernel_rfl)), ?_⟩
    have hs21 : St w0 ((Sl ad1 c1 5 1 byteV q1) :: (Sl (some ⟨b14, 0, none⟩) 1 5 1 byteV ([(IntKind.u8.wrap (iShr .u64 n (IntKind.u64.wrap (8 * z1))) : Int)])) :: L) w15 := (hs18.pull 1 rfl)
    refine GoR.append rfl (by kernel_rfl) rbOK rbF (ad := ad1) (c := c1) (xs := q1) (ys := [(IntKind.u8.wrap (iShr .u64 n (IntKind.u64.wrap (8 * z1))) : Int)]) (adx := some ⟨b14, 0, none⟩) (cx := 1) (0 : Int) (by kernel_rfl) hs21 (hs21.rows 1 rfl (rbF).size (0 : Int)) (fun h => nomatch h) (by first | omega | (simp only [List.length_append, List.length_cons, List.length_nil, strB_length]; omega)) (by first | omega | (simp only [List.length_append, List.length_cons, List.length_nil, strB_length]; omega)) ?_
    intro ad22 c23 w19 hs20
    refine ⟨(opn (by kernel_rfl)), ?_⟩
    refine GoR.phaseK [(9, .gen [])] [7, 1, 6, 8] [] [(7, .slice ad22 ((q1 ++ ([(IntKind.u8.wrap (iShr .u64 n (IntKind.u64.wrap (8 * z1))) : Int)])).length) c23), (1, .int .u64 n), (6, .slice none 0 0), (8, .int .i64 z1)] (by kernel_rfl) rfl ak0 ?_
    refine GoR.done (GoQ.blkN (GoQ.thn ?_))
    refine GoC.regT [7, 7, 7] (.rd 0 (.rd 1 (.rd 2 .done))) (by kernel_rfl) (by kernel_rfl) ?_
    refine GoR.phaseK [(0, .gen []), (1, .as_ (.int .i64 (z1 - 1)) (.gen [])), (2, .gen [])] [8, 7, 1, 6] [(1, [.prop (Value.int .i64 (IntKind.i64.wrap (z1 - 1)) = Value.int .i64 (z1 - 1))])] [(8, .int .i64 (z1 - 1)), (7, .slice ad22 ((q1 ++ ([(IntKind.u8.wrap (iShr .u64 n (IntKind.u64.wrap (8 * z1))) : Int)])).length) c23), (1, .int .u64 n), (6, .slice none 0 0)] (by kernel_rfl) rfl (ak (okp (i64ok (by omega) (by omega)) ok0) ak0) ?_
    refine GoR.done ?_
    have hs24 : St w0 ((Sl (some ⟨b14, 0, none⟩) 1 5 1 byteV ([(IntKind.u8.wrap (iShr .u64 n (IntKind.u64.wrap (8 * z1))) : Int)])) :: (Sl ad22 c23 5 1 byteV (q1 ++ ([(IntKind.u8.wrap (iShr .u64 n (IntKind.u64.wrap (8 * z1))) : Int)]))) :: L) w19 := ((hs20.pull 0 rfl).pull 1 rfl)
    have hs25 : St w0 ((Sl ad22 c23 5 1 byteV (q1 ++ ([(IntKind.u8.wrap (iShr .u64 n (IntKind.u64.wrap (8 * z1))) : Int)]))) :: L) w19 := hs24.drop 1
    exact GoQ.back (y1 + 1, z1 - 1, q1 ++ ([(IntKind.u8.wrap (iShr .u64 n (IntKind.u64.wrap (8 * z1))) : Int)]), ad22, c23) [1, 6, 7, 8] (by kernel_rfl) (by show k - (y1 + 1) < k - y1; omega) ⟨(by refine ⟨by first | omega | (simp only; omega), by first | omega | (simp only; omega), ?_⟩; simp only [List.length_append, List.length_cons, List.length_nil]; omega), hs25⟩
  · have h13' : ¬ ((z1 : Int) ≥ 0) := of_decide_eq_false h13
    refine GoC.exit (GoQ.skipC (GoQ.skipL (GoQ.hit (GoQ.thn (GoC.seq ?_)))))
    refine GoC.regT [3, 3] (.rd 0 (.rd 1 .done)) (by kernel_rfl) (by kernel_rfl) ?_
    refine GoR.phaseK [(0, .gen []), (1, .gen [])] [6] [] [(6, .slice ad1 q1.length c1)] (by kernel_rfl) rfl ak0 ?_
    refine GoR.done (GoQ.thn (GoC.ret ?_))
    refine GoQ.done (.inl rfl) (v := .slice ad1 q1.length c1) (fun a hf => results1 rfl (by kernel_rfl) a hf) ?_
    exact ⟨ad1, c1, q1, rfl, (by omega), hs12⟩
theorem rword_spec {w0 w : World} {L : List Asn} {ad : Option Addr} {c : Nat} (l : List Int) (n : Int) (hl : l.length ≤ 50000) (hn : ad = none → c = 0) (hr : ∀ w, St w0 L w → RowsAt w ad l.length 1 (fun k => byteV (l.getD k (0 : Int)))) (hs : St w0 (L) w) : Calls Tryz.prog 101 #[.slice ad l.length c, .int .u64 n] w (Ret fun rv w' => ∃ (ao : Option Addr) (co : Nat) (ol : List Int), rv = .slice ao ol.length co ∧ ol.length = l.length + 8 ∧ St w0 ((Sl ao co 5 1 byteV ol) :: L) w') := by
  refine enter (args := [.slice ad l.length c, .int .u64 n]) Tryz.func101 rfl Tryz.ntmps101 (Nat.le_of_ble_eq_true (by kernel_rfl)) ?_
  refine GoC.slots (S' := [(0, .slice ad l.length c), (1, .int .u64 n)]) rfl ?_
  refine GoC.seq ?_
  refine GoC.regT [1] (.rd 0 .done) (by kernel_rfl) (by kernel_rfl) ?_
  refine GoR.phaseK [(0, .gen [])] [4, 0, 1] [] [(4, .slice none 0 0), (0, .slice ad l.length c), (1, .int .u64 n)] (by kernel_rfl) rfl ak0 ?_
  refine GoR.done (GoQ.thn (GoC.seq ?_))
  refine GoC.regT [15, 15, 15, 15] (.rd 0 (.rd 1 (.ef 2 (.rd 3 .done)))) (by kernel_rfl) (by kernel_rfl) ?_
  refine GoR.phaseK [(0, .gen []), (1, .gen [])] [6, 5, 4] [] [(6, .int .u64 n), (5, .slice ad l.length c), (4, .slice none 0 0)] (by kernel_rfl) rfl ak0 ?_
  refine GoR.call rfl rfl (by kernel_rfl) (f := 151) (args := #[.slice ad l.length c, .int .u64 n, .int .i64 (8 : Nat)]) (by kernel_rfl) Tryz.call151 (rput_spec l n 8 (by first | omega | (simp only [List.length_append, List.length_cons, List.length_nil, strB_length]; omega) | (simp only [List.length_append, List.length_cons, List.length_nil] at *; omega) | (exact Nat.le_of_ble_eq_true rfl)) (by first | assumption | omega) (by first | assumption | omega) (fun w h => hr _ (h.drop 0)) hs) ?_
  rintro v6 w7 ⟨ao1, co2, ol3, rfl, ho4, hs5⟩
  refine ⟨(opn (by kernel_rfl)), ?_⟩
  refine GoR.phaseK [(3, .gen [])] [4] [] [(4, .slice ao1 ol3.length co2)] (by kernel_rfl) rfl ak0 ?_
  refine GoR.done (GoQ.thn (GoC.ret ?_))
  refine GoQ.done (.inl rfl) (v := .slice ao1 ol3.length co2) (fun a hf => results1 rfl (by kernel_rfl) a hf) ?_
  exact ⟨ao1, co2, ol3, rfl, (by omega), hs5⟩
theorem rhalf_spec {w0 w : World} {L : List Asn} {ad : Option Addr} {c : Nat} (l : List Int) (n : Int) (hl : l.length ≤ 50000) (hn : ad = none → c = 0) (hr : ∀ w, St w0 L w → RowsAt w ad l.length 1 (fun k => byteV (l.getD k (0 : Int)))) (hs : St w0 (L) w) : Calls Tryz.prog 172 #[.slice ad l.length c, .int .u16 n] w (Ret fun rv w' => ∃ (ao : Option Addr) (co : Nat) (ol : List Int), rv = .slice ao ol.length co ∧ ol.length = l.length + 2 ∧ St w0 ((Sl ao co 5 1 byteV ol) :: L) w') := by
  refine enter (args := [.slice ad l.length c, .int .u16 n]) Tryz.func172 rfl Tryz.ntmps172 (Nat.le_of_ble_eq_true (by kernel_rfl)) ?_
  refine GoC.slots (S' := [(0, .slice ad l.length c), (1, .int .u16 n)]) rfl ?_
  refine GoC.seq ?_
  refine GoC.regT [1] (.rd 0 .done) (by kernel_rfl) (by kernel_rfl) ?_
  refine GoR.phaseK [(0, .gen [])] [4, 0, 1] [] [(4, .slice none 0 0), (0, .slice ad l.length c), (1, .int .u16 n)] (by kernel_rfl) rfl ak0 ?_
  refine GoR.done (GoQ.thn (GoC.seq ?_))
  refine GoC.regT [31, 31, 31, 31, 31] (.rd 0 (.rd 1 (.rd 2 (.ef 3 (.rd 4 .done))))) (by kernel_rfl) (by kernel_rfl) ?_
  refine GoR.phaseK [(0, .gen []), (1, .gen []), (2, .gen [])] [7, 5, 4] [] [(7, .int .u64 (IntKind.u64.wrap n)), (5, .slice ad l.length c), (4, .slice none 0 0)] (by kernel_rfl) rfl ak0 ?_
  refine GoR.call rfl rfl (by kernel_rfl) (f := 151) (args := #[.slice ad l.length c, .int .u64 (IntKind.u64.wrap n), .int .i64 (2 : Nat)]) (by kernel_rfl) Tryz.call151 (rput_spec l (IntKind.u64.wrap n) 2 (by first | omega | (simp only [List.length_append, List.length_cons, List.length_nil, strB_length]; omega) | (simp only [List.length_append, List.length_cons, List.length_nil] at *; omega) | (exact Nat.le_of_ble_eq_true rfl)) (by first | assumption | omega) (by first | assumption | omega) (fun w h => hr _ (h.drop 0)) hs) ?_
  rintro v6 w7 ⟨ao1, co2, ol3, rfl, ho4, hs5⟩
  refine ⟨(opn (by kernel_rfl)), ?_⟩
  refine GoR.phaseK [(4, .gen [])] [4] [] [(4, .slice ao1 ol3.length co2)] (by kernel_rfl) rfl ak0 ?_
  refine GoR.done (GoQ.thn (GoC.ret ?_))
  refine GoQ.done (.inl rfl) (v := .slice ao1 ol3.length co2) (fun a hf => results1 rfl (by kernel_rfl) a hf) ?_
  exact ⟨ao1, co2, ol3, rfl, (by omega), hs5⟩
theorem rtext_spec {w0 w : World} {L : List Asn} {ad : Option Addr} {c : Nat} (l : List Int) (s : ByteArray) (hl : l.length ≤ 40000) (hsz : s.size ≤ 1000) (hn : ad = none → c = 0) (hr : ∀ w, St w0 L w → RowsAt w ad l.length 1 (fun k => byteV (l.getD k (0 : Int)))) (hs : St w0 (L) w) : Calls Tryz.prog 122 #[.slice ad l.length c, .string s] w (Ret fun rv w' => ∃ (ao : Option Addr) (co : Nat) (ol : List Int), rv = .tuple #[.slice ao ol.length co, .int .i64 0] ∧ ol.length = l.length + 2 + s.size ∧ St w0 ((Sl ao co 5 1 byteV ol) :: L) w') := by
  refine enter (args := [.slice ad l.length c, .string s]) Tryz.func122 rfl Tryz.ntmps122 (Nat.le_of_ble_eq_true (by kernel_rfl)) ?_
  refine GoC.slots (S' := [(0, .slice ad l.length c), (1, .string s)]) rfl ?_
  refine GoC.seq ?_
  refine GoC.regT [3, 3] (.rd 0 (.rd 1 .done)) (by kernel_rfl) (by kernel_rfl) ?_
  refine GoR.phaseK [(0, .gen []), (1, .gen [])] [5, 4, 0, 1] [] [(5, .int .i64 0), (4, .slice none 0 0), (0, .slice ad l.length c), (1, .string s)] (by kernel_rfl) rfl ak0 ?_
  refine GoR.done (GoQ.thn (GoC.seq (GoC.seq ?_)))
  refine GoC.regT [7, 7, 7] (.rd 0 (.rd 1 (.rd 2 .done))) (by kernel_rfl) (by kernel_rfl) ?_
  refine GoR.phaseK [(0, .gen []), (1, .gen []), (2, .gen [])] [8, 5, 4, 0, 1] [] [(8, .bool (decide (((s.size : Nat) : Int) > 65535))), (5, .int .i64 0), (4, .slice none 0 0), (0, .slice ad l.length c), (1, .string s)] (by kernel_rfl) rfl ak0 ?_
  refine GoR.done (GoQ.thn ?_)
  refine GoC.cond (t := decide (((s.size : Nat) : Int) > 65535)) (by kernel_rfl) (fun h1 => ?_) (fun h1 => ?_)
  · have h1' : ((s.size : Nat) : Int) > 65535 := of_decide_eq_true h1
    exfalso; omega
  · have h1' : ¬ (((s.size : Nat) : Int) > 65535) := of_decide_eq_false h1
    refine GoC.skip (GoQ.thn (GoC.seq ?_))
    refine GoC.regT [511, 511, 511, 511, 511, 511, 511, 511, 511] (.rd 0 (.rd 1 (.rd 2 (.rd 3 (.ef 4 (.rd 5 (.ef 6 (.rd 7 (.rd 8 .done))))))))) (by kernel_rfl) (by kernel_rfl) ?_
    refine GoR.phaseK [(0, .gen []), (1, .gen []), (2, .gen []), (3, .gen [])] [12, 9, 5, 4, 1] [] [(12, .int .u16 (IntKind.u16.wrap (s.size : Nat))), (9, .slice ad l.length c), (5, .int .i64 0), (4, .slice none 0 0), (1, .string s)] (by kernel_rfl) rfl ak0 ?_
    refine GoR.call rfl rfl (by kernel_rfl) (f := 172) (args := #[.slice ad l.length c, .int .u16 (IntKind.u16.wrap (s.size : Nat))]) (by kernel_rfl) Tryz.call172 (rhalf_spec l (IntKind.u16.wrap (s.size : Nat)) (by first | omega | (simp only [List.length_append, List.length_cons, List.length_nil, strB_length]; omega) | (simp only [List.length_append, List.length_cons, List.length_nil] at *; omega) | (exact Nat.le_of_ble_eq_true rfl)) (by first | assumption | omega) (fun w h => hr _ (h.drop 0)) hs) ?_
    rintro v7 w8 ⟨ao2, co3, ol4, rfl, ho5, hs6⟩
    refine ⟨(opn (by kernel_rfl)), ?_⟩
    refine GoR.phaseK [(5, .gen [])] [14, 13, 5, 4] [] [(14, .string s), (13, .slice ao2 ol4.length co3), (5, .int .i64 0), (4, .slice none 0 0)] (by kernel_rfl) rfl ak0 ?_
    refine GoR.appendStr rfl (by kernel_rfl) rbOK (u := 9) (by kernel_rfl) (f := byteV) rfl (ad := ao2) (c := co3) (xs := ol4) (s := s) (by kernel_rfl) hs6 (by first | omega | (simp only [List.length_append, List.length_cons, List.length_nil, strB_length]; omega)) ?_
    intro ad11 c12 w9 hs10
    refine ⟨(opn (by kernel_rfl)), ?_⟩
    refine GoR.phaseK [(7, .gen []), (8, .gen [])] [5, 4] [] [(5, .int .i64 0), (4, .slice ad11 ((ol4 ++ strB s).length) c12)] (by kernel_rfl) rfl ak0 ?_
    refine GoR.done (GoQ.thn (GoC.ret ?_))
    refine GoQ.done (.inl rfl) (v := .tuple #[.slice ad11 ((ol4 ++ strB s).length) c12, .int .i64 0]) (fun a hf => results2 rfl (by kernel_rfl) (by kernel_rfl) a hf) ?_
    exact ⟨ad11, c12, ol4 ++ strB s, rfl, (by simp only [List.length_append, strB_length]; omega), hs10⟩
theorem rwith_spec {w0 w : World} {L : List Asn} {ad : Option Addr} {c : Nat} (l : List Int) (b : Int) (hl : l.length ≤ 64) (hn : ad = none → c = 0) (hr : ∀ w, St w0 L w → RowsAt w ad l.length 1 (fun k => byteV (l.getD k (0 : Int)))) (hs : St w0 (L) w) : Calls Tryz.prog 120 #[.slice ad l.length c, .int .u8 b] w (Ret fun rv w' => ∃ (ao : Option Addr) (co : Nat) (ol : List Int), rv = .slice ao ol.length co ∧ ol.length = 64 ∧ St w0 ((Sl ao co 5 1 byteV ol) :: L) w') := by
  refine enter (args := [.slice ad l.length c, .int .u8 b]) Tryz.func120 rfl Tryz.ntmps120 (Nat.le_of_ble_eq_true (by kernel_rfl)) ?_
  refine GoC.slots (S' := [(0, .slice ad l.length c), (1, .int .u8 b)]) rfl ?_
  refine GoC.seq ?_
  refine GoC.regT [1] (.rd 0 .done) (by kernel_rfl) (by kernel_rfl) ?_
  refine GoR.phaseK [(0, .gen [])] [4, 0, 1] [] [(4, .slice none 0 0), (0, .slice ad l.length c), (1, .int .u8 b)] (by kernel_rfl) rfl ak0 ?_
  refine GoR.done (GoQ.thn (GoC.seq ?_))
  refine GoC.regT [15, 15, 15, 15] (.ef 0 (.rd 1 (.ef 2 (.rd 3 .done)))) (by kernel_rfl) (by kernel_rfl) ?_
  refine GoR.sliceLit0 rfl (by kernel_rfl) (t := 87) (e := 5) (by kernel_rfl) (by kernel_rfl) (ti := Tryz.t5) (by kernel_rfl) hs ?_
  intro b1 w2 hs3 hz4
  have hs5 : St w0 ((Sl (some ⟨b1, 0, none⟩) 0 5 1 byteV ([] : List Int)) :: L) w2 := St.slOf (l := ([] : List Int)) (f := byteV) hs3 hz4 (rbF).size (by simp only [List.length_cons, List.length_nil, maxLen]; omega) (by kernel_rfl)
  refine ⟨(opn (by kernel_rfl)), ?_⟩
  refine GoR.phaseK [(1, .gen [])] [9, 8, 4, 0, 1] [] [(9, .slice ad l.length c), (8, .slice (some ⟨b1, 0, none⟩) 0 0), (4, .slice none 0 0), (0, .slice ad l.length c), (1, .int .u8 b)] (by kernel_rfl) rfl ak0 ?_
  refine GoR.append rfl (by kernel_rfl) rbOK rbF (ad := some ⟨b1, 0, none⟩) (c := 0) (xs := ([] : List Int)) (ys := l) (adx := ad) (cx := c) (0 : Int) (by kernel_rfl) hs5 (hr _ (hs5.drop 1)) hn (by first | omega | (simp only [List.length_append, List.length_cons, List.length_nil, strB_length]; omega)) (by first | omega | (simp only [List.length_append, List.length_cons, List.length_nil, strB_length]; omega)) ?_
  intro ad8 c9 w6 hs7
  refine ⟨(opn (by kernel_rfl)), ?_⟩
  refine GoR.phaseK [(3, .gen [])] [5, 4, 0, 1] [] [(5, .slice ad8 ((l).length) c9), (4, .slice none 0 0), (0, .slice ad l.length c), (1, .int .u8 b)] (by kernel_rfl) rfl ak0 ?_
  refine GoR.done (GoQ.thn (GoC.seq (GoC.seq ?_)))
  refine GoC.regT [7, 7, 7] (.rd 0 (.rd 1 (.rd 2 .done))) (by kernel_rfl) (by kernel_rfl) ?_
  refine GoR.phaseK [(0, .gen []), (1, .gen []), (2, .gen [])] [13, 5, 4, 0, 1] [] [(13, .bool (decide ((((l).length : Nat) : Int) > 64))), (5, .slice ad8 ((l).length) c9), (4, .slice none 0 0), (0, .slice ad l.length c), (1, .int .u8 b)] (by kernel_rfl) rfl ak0 ?_
  refine GoR.done (GoQ.thn ?_)
  refine GoC.cond (t := decide ((((l).length : Nat) : Int) > 64)) (by kernel_rfl) (fun h10 => ?_) (fun h10 => ?_)
  · have h10' : (((l).length : Nat) : Int) > 64 := of_decide_eq_true h10
    exfalso; omega
  · have h10' : ¬ ((((l).length : Nat) : Int) > 64) := of_decide_eq_false h10
    refine GoC.skip (GoQ.thn (GoC.seq (GoC.block ?_)))
    refine GoC.loop (T := (List Int) × (Option Addr) × Nat) (fun gg => [(1, .int .u8 b), (4, .slice none 0 0), (5, .slice gg.2.1 gg.1.length gg.2.2)]) (fun gg w => (gg.1.length ≤ 64) ∧ St w0 ((Sl gg.2.1 gg.2.2 5 1 byteV gg.1) :: L) w) (fun gg => 64 - gg.1.length) (l, ad8, c9) [1, 4, 5] (by kernel_rfl) ⟨(by first | omega | (simp only [List.length_append, List.length_cons, List.length_nil]; omega)), hs7⟩ ?_
    rintro ⟨q0, ad0, c0⟩ w11 ⟨hpa0, hs12⟩
    have hpa : q0.length ≤ 64 := hpa0
    have hs13 : St w0 ((Sl ad0 c0 5 1 byteV q0) :: L) w11 := hs12
    refine GoC.slots (S' := [(1, .int .u8 b), (4, .slice none 0 0), (5, .slice ad0 q0.length c0)]) rfl ?_
    refine GoC.seq (GoC.seq ?_)
    refine GoC.regT [7, 7, 7] (.rd 0 (.rd 1 (.rd 2 .done))) (by kernel_rfl) (by kernel_rfl) ?_
    refine GoR.phaseK [(0, .gen []), (1, .gen []), (2, .gen [])] [21, 1, 4, 5] [] [(21, .bool (decide (((q0.length : Nat) : Int) < 64))), (1, .int .u8 b), (4, .slice none 0 0), (5, .slice ad0 q0.length c0)] (by kernel_rfl) rfl ak0 ?_
    refine GoR.done (GoQ.thn ?_)
    refine GoC.cond (t := decide (((q0.length : Nat) : Int) < 64)) (by kernel_rfl) (fun h14 => ?_) (fun h14 => ?_)
    · have h14' : ((q0.length : Nat) : Int) < 64 := of_decide_eq_true h14
      refine GoC.skip (GoQ.thn (GoC.block ?_))
      refine GoC.regT [15, 15, 15, 15] (.rd 0 (.ef 1 (.ef 2 (.rd 3 .done)))) (by kernel_rfl) (by kernel_rfl) ?_
      refine GoR.phaseK [(0, .gen [])] [22, 1, 4, 5] [] [(22, .slice ad0 q0.length c0), (1, .int .u8 b), (4, .slice none 0 0), (5, .slice ad0 q0.length c0)] (by kernel_rfl) rfl ak0 ?_
      refine GoR.sliceLit rfl (by kernel_rfl) (t := 87) (e := 5) (n := 1) (ps := [(0, .int .u8 0)]) (by kernel_rfl) (by kernel_rfl) (ti := Tryz.t5) (z := .int .u8 0) (by kernel_rfl) (by kernel_rfl) (by decide) (by decide) (cs := #[.int .u8 0]) (by kernel_rfl) hs13 ?_
      intro b15 w16 hs17 hz18
      have hs19 : St w0 ((Sl (some ⟨b15, 0, none⟩) 1 5 1 byteV ([(0 : Int)])) :: (Sl ad0 c0 5 1 byteV q0) :: L) w16 := St.slOf (l := [(0 : Int)]) (f := byteV) hs17 hz18 (rbF).size (by simp only [List.length_cons, List.length_nil, maxLen]; omega) (by kernel_rfl)
      refine ⟨(opn (by kernel_rfl)), ?_⟩
      have hs22 : St w0 ((Sl ad0 c0 5 1 byteV q0) :: (Sl (some ⟨b15, 0, none⟩) 1 5 1 byteV ([(0 : Int)])) :: L) w16 := (hs19.pull 1 rfl)
      refine GoR.append rfl (by kernel_rfl) rbOK rbF (ad := ad0) (c := c0) (xs := q0) (ys := [(0 : Int)]) (adx := some ⟨b15, 0, none⟩) (cx := 1) (0 : Int) (by kernel_rfl) hs22 (hs22.rows 1 rfl (rbF).size (0 : Int)) (fun h => nomatch h) (by first | omega | (simp only [List.length_append, List.length_cons, List.length_nil, strB_length]; omega)) (by first | omega | (simp only [List.length_append, List.length_cons, List.length_nil, strB_length]; omega)) ?_
      intro ad23 c24 w20 hs21
      refine ⟨(opn (by kernel_rfl)), ?_⟩
      refine GoR.phaseK [(3, .gen [])] [5, 1, 4] [] [(5, .slice ad23 ((q0 ++ ([(0 : Int)])).length) c24), (1, .int .u8 b), (4, .slice none 0 0)] (by kernel_rfl) rfl ak0 ?_
      refine GoR.done (GoQ.blkN ?_)
      have hs25 : St w0 ((Sl (some ⟨b15, 0, none⟩) 1 5 1 byteV ([(0 : Int)])) :: (Sl ad23 c24 5 1 byteV (q0 ++ ([(0 : Int)]))) :: L) w20 := ((hs21.pull 0 rfl).pull 1 rfl)
      have hs26 : St w0 ((Sl ad23 c24 5 1 byteV (q0 ++ ([(0 : Int)]))) :: L) w20 := hs25.drop 1
      exact GoQ.back (q0 ++ ([(0 : Int)]), ad23, c24) [1, 4, 5] (by kernel_rfl) (by show 64 - (q0 ++ ([(0 : Int)])).length < 64 - q0.length; simp only [List.length_append, List.length_cons, List.length_nil]; omega) ⟨(by first | omega | (simp only [List.length_append, List.length_cons, List.length_nil]; omega)), hs26⟩
    · have h14' : ¬ (((q0.length : Nat) : Int) < 64) := of_decide_eq_false h14
      refine GoC.exit (GoQ.skipC (GoQ.skipL (GoQ.hit (GoQ.thn (GoC.seq (GoC.seq ?_))))))
      refine GoC.regT [1] (.rd 0 .done) (by kernel_rfl) (by kernel_rfl) ?_
      refine GoR.phaseK [(0, .gen [])] [7, 1, 4, 5] [] [(7, .int .i64 0), (1, .int .u8 b), (4, .slice none 0 0), (5, .slice ad0 q0.length c0)] (by kernel_rfl) rfl ak0 ?_
      refine GoR.done (GoQ.thn (GoC.block ?_))
      have hq0 : q0.length = 64 := by omega
      obtain ⟨ab27, rfl⟩ := Sl.isSome (hs13.at_ 0 rfl) (by omega)
      refine GoC.loop (T := Nat × (List Int)) (fun gg => [(1, .int .u8 b), (4, .slice none 0 0), (5, .slice (some ⟨ab27, 0, none⟩) q0.length c0), (7, .int .i64 (gg.1 : Nat))]) (fun gg w => (gg.1 ≤ 64 ∧ gg.2.length = 64) ∧ St w0 ((Sl (some ⟨ab27, 0, none⟩) c0 5 1 byteV gg.2) :: L) w) (fun gg => 64 - gg.1) (0, q0) [1, 4, 5, 7] (by kernel_rfl) ⟨⟨Nat.zero_le _, hq0⟩, hs13⟩ ?_
      rintro ⟨k1, x1⟩ w29 ⟨hpb0, hs30⟩
      have hpb : k1 ≤ 64 ∧ x1.length = 64 := hpb0
      have hs31 : St w0 ((Sl (some ⟨ab27, 0, none⟩) c0 5 1 byteV x1) :: L) w29 := hs30
      refine GoC.slots (S' := [(1, .int .u8 b), (4, .slice none 0 0), (5, .slice (some ⟨ab27, 0, none⟩) q0.length c0), (7, .int .i64 (k1 : Nat))]) rfl ?_
      refine GoC.seq (GoC.seq ?_)
      refine GoC.regT [3, 3] (.rd 0 (.rd 1 .done)) (by kernel_rfl) (by kernel_rfl) ?_
      refine GoR.phaseK [(0, .gen []), (1, .gen [])] [26, 1, 4, 5, 7] [] [(26, .bool (decide (((k1 : Nat) : Int) < 64))), (1, .int .u8 b), (4, .slice none 0 0), (5, .slice (some ⟨ab27, 0, none⟩) q0.length c0), (7, .int .i64 (k1 : Nat))] (by kernel_rfl) rfl ak0 ?_
      refine GoR.done (GoQ.thn ?_)
      refine GoC.cond (t := decide (((k1 : Nat) : Int) < 64)) (by kernel_rfl) (fun h32 => ?_) (fun h32 => ?_)
      · have h32' : ((k1 : Nat) : Int) < 64 := of_decide_eq_true h32
        refine GoC.skip (GoQ.thn (GoC.seq (GoC.block ?_)))
        refine GoC.regT [1023, 1023, 1023, 1023, 1023, 1023, 1023, 1023, 1023, 1023] (.rd 0 (.rd 1 (.rd 2 (.rd 3 (.rd 4 (.rd 5 (.rd 6 (.rd 7 (.rd 8 (.ef 9 .done)))))))))) (by kernel_rfl) (by kernel_rfl) ?_
        refine GoR.phaseK [(0, .gen []), (1, .gen []), (2, .gen []), (3, .gen []), (4, .as_ (.pointer (some ⟨ab27, 0 + (k1 * 1), none⟩)) .at_), (5, .gen [.int .u8 (x1.getD k1 (0 : Int))]), (6, .gen []), (7, .gen []), (8, .as_ (.pointer (some ⟨ab27, 0 + (k1 * 1), none⟩)) .at_)] [37, 36, 1, 4, 5, 7] [(4, [.prop (0 ≤ ((k1 : Nat) : Int) ∧ ((k1 : Nat) : Int) < ((q0.length : Nat) : Int)), .prop (Value.pointer (some (Addr.add ⟨ab27, 0, none⟩ (Int.toNat (k1 : Nat) * 1))) = Value.pointer (some ⟨ab27, 0 + (k1 * 1), none⟩))]), (5, [.cell ⟨ab27, 0 + (k1 * 1), none⟩ (.int .u8 (x1.getD k1 (0 : Int)))]), (8, [.prop (0 ≤ ((k1 : Nat) : Int) ∧ ((k1 : Nat) : Int) < ((q0.length : Nat) : Int)), .prop (Value.pointer (some (Addr.add ⟨ab27, 0, none⟩ (Int.toNat (k1 : Nat) * 1))) = Value.pointer (some ⟨ab27, 0 + (k1 * 1), none⟩))])] [(37, .pointer (some ⟨ab27, 0 + (k1 * 1), none⟩)), (36, .int .u8 (iXor .u8 (x1.getD k1 (0 : Int)) b)), (1, .int .u8 b), (4, .slice none 0 0), (5, .slice (some ⟨ab27, 0, none⟩) q0.length c0), (7, .int .i64 (k1 : Nat))] (by kernel_rfl) rfl (ak (okp (by omega) (okp (ptrAdd _ _ _) ok0)) (ak (okc (RowsAt.at0 (hs31.rows 0 rfl (rbF).size (0 : Int)) (k := k1) (by first | omega | (simp only [List.length_set]; omega) | (simp only [List.length_set, List.length_append, List.length_cons, List.length_nil]; omega)) (j := 0) (by decide) (by kernel_rfl)) ok0) (ak (okp (by omega) (okp (ptrAdd _ _ _) ok0)) ak0))) ?_
        refine GoR.storeSl rfl rfl (by kernel_rfl) (b := ab27) (off := 0 + (k1 * 1)) (v := .int .u8 (iXor .u8 (x1.getD k1 (0 : Int)) b)) (by kernel_rfl) (by kernel_rfl) (ti := Tryz.t5) (by kernel_rfl) hs31 0 (rbF).size rfl (by kernel_rfl) (by kernel_rfl) (by rw [Nat.zero_add]; exact field_room (f := byteV) (size := 1) (l := x1) (k := k1) (o := 0) (n := 1) (rbF).size (by first | omega | (simp only [List.length_set]; omega) | (simp only [List.length_set, List.length_append, List.length_cons, List.length_nil]; omega)) (by decide)) (List.length_set ..) (xs' := (x1).set k1 (iXor .u8 (x1.getD k1 (0 : Int)) b)) (by rw [Nat.zero_add]; exact splice_field (f := byteV) (size := 1) (l := x1) (k := k1) (o := 0) (rbF).size (by first | omega | (simp only [List.length_set]; omega) | (simp only [List.length_set, List.length_append, List.length_cons, List.length_nil]; omega)) (0 : Int) (iXor .u8 (x1.getD k1 (0 : Int)) b) (Nat.le_of_ble_eq_true rfl) (by kernel_rfl)) (L' := (Sl (some ⟨ab27, 0, none⟩) c0 5 1 byteV ((x1).set k1 (iXor .u8 (x1.getD k1 (0 : Int)) b))) :: L) rfl ?_
        intro w33 hs34
        refine ⟨(opn (by kernel_rfl)), ?_⟩
        refine GoR.done (GoQ.blkN (GoQ.thn ?_))
        refine GoC.regT [7, 7, 7] (.rd 0 (.rd 1 (.rd 2 .done))) (by kernel_rfl) (by kernel_rfl) ?_
        refine GoR.phaseK [(0, .gen []), (1, .as_ (.int .i64 ((k1 : Nat) + 1)) (.gen [])), (2, .gen [])] [7, 1, 4, 5] [(1, [.prop (Value.int .i64 (IntKind.i64.wrap ((k1 : Nat) + 1)) = Value.int .i64 ((k1 : Nat) + 1))])] [(7, .int .i64 ((k1 : Nat) + 1)), (1, .int .u8 b), (4, .slice none 0 0), (5, .slice (some ⟨ab27, 0, none⟩) q0.length c0)] (by kernel_rfl) rfl (ak (okp (i64ok (by omega) (by omega)) ok0) ak0) ?_
        refine GoR.done ?_
        exact GoQ.back (k1 + 1, (x1).set k1 (iXor .u8 (x1.getD k1 (0 : Int)) b)) [1, 4, 5, 7] (by kernel_rfl) (by show 64 - (k1 + 1) < 64 - k1; omega) ⟨⟨by omega, by simp only [List.length_set]; omega⟩, hs34⟩
      · have h32' : ¬ (((k1 : Nat) : Int) < 64) := of_decide_eq_false h32
        refine GoC.exit (GoQ.skipC (GoQ.skipL (GoQ.hit (GoQ.thn (GoC.seq ?_)))))
        refine GoC.regT [3, 3] (.rd 0 (.rd 1 .done)) (by kernel_rfl) (by kernel_rfl) ?_
        refine GoR.phaseK [(0, .gen []), (1, .gen [])] [4] [] [(4, .slice (some ⟨ab27, 0, none⟩) q0.length c0)] (by kernel_rfl) rfl ak0 ?_
        refine GoR.done (GoQ.thn (GoC.ret ?_))
        refine GoQ.done (.inl rfl) (v := .slice (some ⟨ab27, 0, none⟩) q0.length c0) (fun a hf => results1 rfl (by kernel_rfl) a hf) ?_
        exact ⟨some ⟨ab27, 0, none⟩, c0, x1, (by rw [show x1.length = q0.length by omega]), (by omega), hs31⟩
theorem rof_spec {w0 w : World} {L : List Asn} {adx : Option Addr} {ck : Nat} {ady : Option Addr} {cb : Nat} (lk : List Int) (lb : List Int) (hl1 : lk.length ≤ 64) (hl2 : lb.length ≤ 50000) (hn1 : adx = none → ck = 0) (hn2 : ady = none → cb = 0) (hr1 : ∀ w, St w0 L w → RowsAt w adx lk.length 1 (fun k => byteV (lk.getD k (0 : Int)))) (hr2 : ∀ w, St w0 L w → RowsAt w ady lb.length 1 (fun k => byteV (lb.getD k (0 : Int)))) (hs : St w0 (L) w) : Calls Tryz.prog 64 #[.slice adx lk.length ck, .slice ady lb.length cb] w (Ret fun rv w' => ∃ (t0 : Int) (t1 : Int) (t2 : Int) (t3 : Int) (t4 : Int) (t5 : Int) (t6 : Int) (t7 : Int) (t8 : Int) (t9 : Int) (t10 : Int) (t11 : Int) (t12 : Int) (t13 : Int) (t14 : Int) (t15 : Int) (t16 : Int) (t17 : Int) (t18 : Int) (t19 : Int) (t20 : Int) (t21 : Int) (t22 : Int) (t23 : Int) (t24 : Int) (t25 : Int) (t26 : Int) (t27 : Int) (t28 : Int) (t29 : Int) (t30 : Int) (t31 : Int), rv = .agg #[.int .u8 t0, .int .u8 t1, .int .u8 t2, .int .u8 t3, .int .u8 t4, .int .u8 t5, .int .u8 t6, .int .u8 t7, .int .u8 t8, .int .u8 t9, .int .u8 t10, .int .u8 t11, .int .u8 t12, .int .u8 t13, .int .u8 t14, .int .u8 t15, .int .u8 t16, .int .u8 t17, .int .u8 t18, .int .u8 t19, .int .u8 t20, .int .u8 t21, .int .u8 t22, .int .u8 t23, .int .u8 t24, .int .u8 t25, .int .u8 t26, .int .u8 t27, .int .u8 t28, .int .u8 t29, .int .u8 t30, .int .u8 t31] ∧ St w0 (L) w') := by
  refine enter (args := [.slice adx lk.length ck, .slice ady lb.length cb]) Tryz.func64 rfl Tryz.ntmps64 (Nat.le_of_ble_eq_true (by kernel_rfl)) ?_
  refine GoC.slots (S' := [(0, .slice adx lk.length ck), (1, .slice ady lb.length cb)]) rfl ?_
  refine GoC.seq ?_
  refine GoC.regT [1] (.ef 0 .done) (by kernel_rfl) (by kernel_rfl) ?_
  refine GoR.alloc rfl rfl (by kernel_rfl) (z := .agg #[.int .u8 0, .int .u8 0, .int .u8 0, .int .u8 0, .int .u8 0, .int .u8 0, .int .u8 0, .int .u8 0, .int .u8 0, .int .u8 0, .int .u8 0, .int .u8 0, .int .u8 0, .int .u8 0, .int .u8 0, .int .u8 0, .int .u8 0, .int .u8 0, .int .u8 0, .int .u8 0, .int .u8 0, .int .u8 0, .int .u8 0, .int .u8 0, .int .u8 0, .int .u8 0, .int .u8 0, .int .u8 0, .int .u8 0, .int .u8 0, .int .u8 0, .int .u8 0]) (by kernel_rfl) hs (cs := #[.int .u8 0, .int .u8 0, .int .u8 0, .int .u8 0, .int .u8 0, .int .u8 0, .int .u8 0, .int .u8 0, .int .u8 0, .int .u8 0, .int .u8 0, .int .u8 0, .int .u8 0, .int .u8 0, .int .u8 0, .int .u8 0, .int .u8 0, .int .u8 0, .int .u8 0, .int .u8 0, .int .u8 0, .int .u8 0, .int .u8 0, .int .u8 0, .int .u8 0, .int .u8 0, .int .u8 0, .int .u8 0, .int .u8 0, .int .u8 0, .int .u8 0, .int .u8 0]) (by kernel_rfl) ?_
  intro b1 w2 hs3
  refine ⟨(opn (by kernel_rfl)), ?_⟩
  refine GoR.done (GoQ.thn (GoC.seq ?_))
  refine GoC.regT [127, 127, 127, 127, 127, 127, 127] (.rd 0 (.ef 1 (.rd 2 (.ef 3 (.ef 4 (.ef 5 (.ef 6 .done))))))) (by kernel_rfl) (by kernel_rfl) ?_
  refine GoR.phaseK [(0, .gen [])] [6, 4, 0, 1] [] [(6, .slice adx lk.length ck), (4, .pointer (some ⟨b1, 0, none⟩)), (0, .slice adx lk.length ck), (1, .slice ady lb.length cb)] (by kernel_rfl) rfl ak0 ?_
  refine GoR.call rfl rfl (by kernel_rfl) (f := 120) (args := #[.slice adx lk.length ck, .int .u8 54]) (by kernel_rfl) Tryz.call120 (rwith_spec lk 54 (by first | omega | (simp only [List.length_append, List.length_cons, List.length_nil, strB_length]; omega) | (simp only [List.length_append, List.length_cons, List.length_nil] at *; omega) | (exact Nat.le_of_ble_eq_true rfl)) (by first | assumption | omega) (fun w h => hr1 _ (h.drop 1)) hs3) ?_
  rintro v9 w10 ⟨ao4, co5, ol6, rfl, ho7, hs8⟩
  refine ⟨(opn (by kernel_rfl)), ?_⟩
  refine GoR.phaseK [(2, .gen [])] [8, 7, 4, 0] [] [(8, .slice ady lb.length cb), (7, .slice ao4 ol6.length co5), (4, .pointer (some ⟨b1, 0, none⟩)), (0, .slice adx lk.length ck)] (by kernel_rfl) rfl ak0 ?_
  refine GoR.append rfl (by kernel_rfl) rbOK rbF (ad := ao4) (c := co5) (xs := ol6) (ys := lb) (adx := ady) (cx := cb) (0 : Int) (by kernel_rfl) hs8 (hr2 _ (hs8.drop 2)) hn2 (by first | omega | (simp only [List.length_append, List.length_cons, List.length_nil, strB_length]; omega)) (by first | omega | (simp only [List.length_append, List.length_cons, List.length_nil, strB_length]; omega)) ?_
  intro ad13 c14 w11 hs12
  refine ⟨(opn (by kernel_rfl)), ?_⟩
  refine GoR.call rfl rfl (by kernel_rfl) (f := 119) (args := #[.slice ad13 ((ol6 ++ lb).length) c14]) (by kernel_rfl) Tryz.call119 (rsum_spec (ol6 ++ lb) (by first | omega | (simp only [List.length_append, List.length_cons, List.length_nil, strB_length]; omega) | (simp only [List.length_append, List.length_cons, List.length_nil] at *; omega) | (exact Nat.le_of_ble_eq_true rfl)) (hs12.slNone 0 rfl) (fun w h => h.rows 0 rfl (rbF).size _) hs12) ?_
  rintro v48 w49 ⟨t15, t16, t17, t18, t19, t20, t21, t22, t23, t24, t25, t26, t27, t28, t29, t30, t31, t32, t33, t34, t35, t36, t37, t38, t39, t40, t41, t42, t43, t44, t45, t46, rfl, hs47⟩
  refine ⟨(opn (by kernel_rfl)), ?_⟩
  refine GoR.alloc rfl rfl (by kernel_rfl) (z := .agg #[.int .u8 0, .int .u8 0, .int .u8 0, .int .u8 0, .int .u8 0, .int .u8 0, .int .u8 0, .int .u8 0, .int .u8 0, .int .u8 0, .int .u8 0, .int .u8 0, .int .u8 0, .int .u8 0, .int .u8 0, .int .u8 0, .int .u8 0, .int .u8 0, .int .u8 0, .int .u8 0, .int .u8 0, .int .u8 0, .int .u8 0, .int .u8 0, .int .u8 0, .int .u8 0, .int .u8 0, .int .u8 0, .int .u8 0, .int .u8 0, .int .u8 0, .int .u8 0]) (by kernel_rfl) hs47 (cs := #[.int .u8 0, .int .u8 0, .int .u8 0, .int .u8 0, .int .u8 0, .int .u8 0, .int .u8 0, .int .u8 0, .int .u8 0, .int .u8 0, .int .u8 0, .int .u8 0, .int .u8 0, .int .u8 0, .int .u8 0, .int .u8 0, .int .u8 0, .int .u8 0, .int .u8 0, .int .u8 0, .int .u8 0, .int .u8 0, .int .u8 0, .int .u8 0, .int .u8 0, .int .u8 0, .int .u8 0, .int .u8 0, .int .u8 0, .int .u8 0, .int .u8 0, .int .u8 0]) (by kernel_rfl) ?_
  intro b50 w51 hs52
  refine ⟨(opn (by kernel_rfl)), ?_⟩
  refine GoR.store rfl rfl (by kernel_rfl) (b := b50) (off := 0) (v := .agg #[.int .u8 t15, .int .u8 t16, .int .u8 t17, .int .u8 t18, .int .u8 t19, .int .u8 t20, .int .u8 t21, .int .u8 t22, .int .u8 t23, .int .u8 t24, .int .u8 t25, .int .u8 t26, .int .u8 t27, .int .u8 t28, .int .u8 t29, .int .u8 t30, .int .u8 t31, .int .u8 t32, .int .u8 t33, .int .u8 t34, .int .u8 t35, .int .u8 t36, .int .u8 t37, .int .u8 t38, .int .u8 t39, .int .u8 t40, .int .u8 t41, .int .u8 t42, .int .u8 t43, .int .u8 t44, .int .u8 t45, .int .u8 t46]) (by kernel_rfl) (by kernel_rfl) (ti := Tryz.t25) (by kernel_rfl) hs52 0 rfl (by kernel_rfl) (by kernel_rfl) (Nat.le_of_ble_eq_true (by kernel_rfl)) (cs' := #[.int .u8 t15, .int .u8 t16, .int .u8 t17, .int .u8 t18, .int .u8 t19, .int .u8 t20, .int .u8 t21, .int .u8 t22, .int .u8 t23, .int .u8 t24, .int .u8 t25, .int .u8 t26, .int .u8 t27, .int .u8 t28, .int .u8 t29, .int .u8 t30, .int .u8 t31, .int .u8 t32, .int .u8 t33, .int .u8 t34, .int .u8 t35, .int .u8 t36, .int .u8 t37, .int .u8 t38, .int .u8 t39, .int .u8 t40, .int .u8 t41, .int .u8 t42, .int .u8 t43, .int .u8 t44, .int .u8 t45, .int .u8 t46]) (L' := (Cel b50 #[.int .u8 t15, .int .u8 t16, .int .u8 t17, .int .u8 t18, .int .u8 t19, .int .u8 t20, .int .u8 t21, .int .u8 t22, .int .u8 t23, .int .u8 t24, .int .u8 t25, .int .u8 t26, .int .u8 t27, .int .u8 t28, .int .u8 t29, .int .u8 t30, .int .u8 t31, .int .u8 t32, .int .u8 t33, .int .u8 t34, .int .u8 t35, .int .u8 t36, .int .u8 t37, .int .u8 t38, .int .u8 t39, .int .u8 t40, .int .u8 t41, .int .u8 t42, .int .u8 t43, .int .u8 t44, .int .u8 t45, .int .u8 t46] 25) :: (Sl ad13 c14 5 1 byteV (ol6 ++ lb)) :: (Cel b1 #[.int .u8 0, .int .u8 0, .int .u8 0, .int .u8 0, .int .u8 0, .int .u8 0, .int .u8 0, .int .u8 0, .int .u8 0, .int .u8 0, .int .u8 0, .int .u8 0, .int .u8 0, .int .u8 0, .int .u8 0, .int .u8 0, .int .u8 0, .int .u8 0, .int .u8 0, .int .u8 0, .int .u8 0, .int .u8 0, .int .u8 0, .int .u8 0, .int .u8 0, .int .u8 0, .int .u8 0, .int .u8 0, .int .u8 0, .int .u8 0, .int .u8 0, .int .u8 0] 25) :: L) (by kernel_rfl) rfl ?_
  intro w53 hs54
  refine ⟨(opn (by kernel_rfl)), ?_⟩
  refine GoR.done (GoQ.thn (GoC.seq ?_))
  refine GoC.regD [0, 1, 0, 7, 15, 31] (.rd 0 (.rd 2 (.ef 1 (.ef 3 (.ef 4 (.ef 5 .done)))))) (by kernel_rfl) (by kernel_rfl) noPan_body (by kernel_rfl) hs54 ?_
  intro w55 hs56 hw57
  refine GoR.phaseK [(0, .gen []), (2, .as_ (.slice (some ⟨b50, 0, none⟩) 32 32) (.sub 0 32))] [13, 11, 4] [(2, [.prop ((((none : Option Operand)) = none → (0 : Nat) = 0) ∧ (((none : Option Operand)) = none → (32 : Nat) = 32) ∧ (0 : Nat) ≤ 32 ∧ (32 : Nat) ≤ 32), .prop (Value.slice (some (if 32 = 0 then Addr.mk b50 0 none else (Addr.mk b50 0 none).add (0 * 1))) (32 - 0) (32 - 0) = Value.slice (some ⟨b50, 0, none⟩) 32 32)])] [(13, .slice (some ⟨b50, 0, none⟩) 32 32), (11, .slice adx lk.length ck), (4, .pointer (some ⟨b1, 0, none⟩))] (by kernel_rfl) rfl (ak (okp ⟨(by first | (intro _; rfl) | (intro hc; cases hc)), (by first | (intro _; rfl) | (intro hc; cases hc)), (by omega), (by omega)⟩ (okp (subArr0 _ _ _ _ _ (by decide)) ok0)) ak0) ?_
  refine GoR.call rfl rfl (by kernel_rfl) (f := 120) (args := #[.slice adx lk.length ck, .int .u8 92]) (by kernel_rfl) Tryz.call120 (rwith_spec lk 92 (by first | omega | (simp only [List.length_append, List.length_cons, List.length_nil, strB_length]; omega) | (simp only [List.length_append, List.length_cons, List.length_nil] at *; omega) | (exact Nat.le_of_ble_eq_true rfl)) (by first | assumption | omega) (fun w h => hr1 _ (h.drop 3)) hs56) ?_
  rintro v63 w64 ⟨ao58, co59, ol60, rfl, ho61, hs62⟩
  refine ⟨(opl (n := [.prop ((((none : Option Operand)) = none → (0 : Nat) = 0) ∧ (((none : Option Operand)) = none → (32 : Nat) = 32) ∧ (0 : Nat) ≤ 32 ∧ (32 : Nat) ≤ 32), .prop (Value.slice (some (if 32 = 0 then Addr.mk b50 0 none else (Addr.mk b50 0 none).add (0 * 1))) (32 - 0) (32 - 0) = Value.slice (some ⟨b50, 0, none⟩) 32 32)]) (by kernel_rfl) (okp ⟨(by first | (intro _; rfl) | (intro hc; cases hc)), (by first | (intro _; rfl) | (intro hc; cases hc)), (by omega), (by omega)⟩ (okp (subArr0 _ _ _ _ _ (by decide)) ok0))), ?_⟩
  have hs67 : St w0 ((Sl ao58 co59 5 1 byteV ol60) :: (Cel b50 (arrCells byteV ([t15, t16, t17, t18, t19, t20, t21, t22, t23, t24, t25, t26, t27, t28, t29, t30, t31, t32, t33, t34, t35, t36, t37, t38, t39, t40, t41, t42, t43, t44, t45, t46])) 25) :: (Sl ad13 c14 5 1 byteV (ol6 ++ lb)) :: (Cel b1 #[.int .u8 0, .int .u8 0, .int .u8 0, .int .u8 0, .int .u8 0, .int .u8 0, .int .u8 0, .int .u8 0, .int .u8 0, .int .u8 0, .int .u8 0, .int .u8 0, .int .u8 0, .int .u8 0, .int .u8 0, .int .u8 0, .int .u8 0, .int .u8 0, .int .u8 0, .int .u8 0, .int .u8 0, .int .u8 0, .int .u8 0, .int .u8 0, .int .u8 0, .int .u8 0, .int .u8 0, .int .u8 0, .int .u8 0, .int .u8 0, .int .u8 0, .int .u8 0] 25) :: L) w64 := Eq.mp (by kernel_rfl) hs62
  refine GoR.append rfl (by kernel_rfl) rbOK rbF (ad := ao58) (c := co59) (xs := ol60) (ys := [t15, t16, t17, t18, t19, t20, t21, t22, t23, t24, t25, t26, t27, t28, t29, t30, t31, t32, t33, t34, t35, t36, t37, t38, t39, t40, t41, t42, t43, t44, t45, t46]) (adx := some ⟨b50, 0, none⟩) (cx := 32) (0 : Int) (by kernel_rfl) hs67 (arr_rows hs67 1 rfl (rbF).size (0 : Int)) (fun h => nomatch h) (by first | omega | (simp only [List.length_append, List.length_cons, List.length_nil, strB_length]; omega)) (by first | omega | (simp only [List.length_append, List.length_cons, List.length_nil, strB_length]; omega)) ?_
  intro ad68 c69 w65 hs66
  refine ⟨(opn (by kernel_rfl)), ?_⟩
  refine GoR.call rfl rfl (by kernel_rfl) (f := 119) (args := #[.slice ad68 ((ol60 ++ ([t15, t16, t17, t18, t19, t20, t21, t22, t23, t24, t25, t26, t27, t28, t29, t30, t31, t32, t33, t34, t35, t36, t37, t38, t39, t40, t41, t42, t43, t44, t45, t46])).length) c69]) (by kernel_rfl) Tryz.call119 (rsum_spec (ol60 ++ ([t15, t16, t17, t18, t19, t20, t21, t22, t23, t24, t25, t26, t27, t28, t29, t30, t31, t32, t33, t34, t35, t36, t37, t38, t39, t40, t41, t42, t43, t44, t45, t46])) (by first | omega | (simp only [List.length_append, List.length_cons, List.length_nil, strB_length]; omega) | (simp only [List.length_append, List.length_cons, List.length_nil] at *; omega) | (exact Nat.le_of_ble_eq_true rfl)) (hs66.slNone 0 rfl) (fun w h => h.rows 0 rfl (rbF).size _) hs66) ?_
  rintro v103 w104 ⟨t70, t71, t72, t73, t74, t75, t76, t77, t78, t79, t80, t81, t82, t83, t84, t85, t86, t87, t88, t89, t90, t91, t92, t93, t94, t95, t96, t97, t98, t99, t100, t101, rfl, hs102⟩
  refine ⟨(opn (by kernel_rfl)), ?_⟩
  refine GoR.store rfl rfl (by kernel_rfl) (b := b1) (off := 0) (v := .agg #[.int .u8 t70, .int .u8 t71, .int .u8 t72, .int .u8 t73, .int .u8 t74, .int .u8 t75, .int .u8 t76, .int .u8 t77, .int .u8 t78, .int .u8 t79, .int .u8 t80, .int .u8 t81, .int .u8 t82, .int .u8 t83, .int .u8 t84, .int .u8 t85, .int .u8 t86, .int .u8 t87, .int .u8 t88, .int .u8 t89, .int .u8 t90, .int .u8 t91, .int .u8 t92, .int .u8 t93, .int .u8 t94, .int .u8 t95, .int .u8 t96, .int .u8 t97, .int .u8 t98, .int .u8 t99, .int .u8 t100, .int .u8 t101]) (by kernel_rfl) (by kernel_rfl) (ti := Tryz.t25) (by kernel_rfl) hs102 3 rfl (by kernel_rfl) (by kernel_rfl) (Nat.le_of_ble_eq_true (by kernel_rfl)) (cs' := #[.int .u8 t70, .int .u8 t71, .int .u8 t72, .int .u8 t73, .int .u8 t74, .int .u8 t75, .int .u8 t76, .int .u8 t77, .int .u8 t78, .int .u8 t79, .int .u8 t80, .int .u8 t81, .int .u8 t82, .int .u8 t83, .int .u8 t84, .int .u8 t85, .int .u8 t86, .int .u8 t87, .int .u8 t88, .int .u8 t89, .int .u8 t90, .int .u8 t91, .int .u8 t92, .int .u8 t93, .int .u8 t94, .int .u8 t95, .int .u8 t96, .int .u8 t97, .int .u8 t98, .int .u8 t99, .int .u8 t100, .int .u8 t101]) (L' := (Sl ad68 c69 5 1 byteV (ol60 ++ ([t15, t16, t17, t18, t19, t20, t21, t22, t23, t24, t25, t26, t27, t28, t29, t30, t31, t32, t33, t34, t35, t36, t37, t38, t39, t40, t41, t42, t43, t44, t45, t46]))) :: (Cel b50 (arrCells byteV ([t15, t16, t17, t18, t19, t20, t21, t22, t23, t24, t25, t26, t27, t28, t29, t30, t31, t32, t33, t34, t35, t36, t37, t38, t39, t40, t41, t42, t43, t44, t45, t46])) 25) :: (Sl ad13 c14 5 1 byteV (ol6 ++ lb)) :: (Cel b1 #[.int .u8 t70, .int .u8 t71, .int .u8 t72, .int .u8 t73, .int .u8 t74, .int .u8 t75, .int .u8 t76, .int .u8 t77, .int .u8 t78, .int .u8 t79, .int .u8 t80, .int .u8 t81, .int .u8 t82, .int .u8 t83, .int .u8 t84, .int .u8 t85, .int .u8 t86, .int .u8 t87, .int .u8 t88, .int .u8 t89, .int .u8 t90, .int .u8 t91, .int .u8 t92, .int .u8 t93, .int .u8 t94, .int .u8 t95, .int .u8 t96, .int .u8 t97, .int .u8 t98, .int .u8 t99, .int .u8 t100, .int .u8 t101] 25) :: L) (by kernel_rfl) rfl ?_
  intro w105 hs106
  refine ⟨(opn (by kernel_rfl)), ?_⟩
  refine GoR.done (GoQ.thn (GoC.ret ?_))
  refine GoQ.done (.inl rfl) (v := .agg #[.int .u8 t70, .int .u8 t71, .int .u8 t72, .int .u8 t73, .int .u8 t74, .int .u8 t75, .int .u8 t76, .int .u8 t77, .int .u8 t78, .int .u8 t79, .int .u8 t80, .int .u8 t81, .int .u8 t82, .int .u8 t83, .int .u8 t84, .int .u8 t85, .int .u8 t86, .int .u8 t87, .int .u8 t88, .int .u8 t89, .int .u8 t90, .int .u8 t91, .int .u8 t92, .int .u8 t93, .int .u8 t94, .int .u8 t95, .int .u8 t96, .int .u8 t97, .int .u8 t98, .int .u8 t99, .int .u8 t100, .int .u8 t101]) (fun a hf => resultsA rfl (by kernel_rfl) (ti := Tryz.t25) (by kernel_rfl) (by kernel_rfl) (vs := #[.int .u8 t70, .int .u8 t71, .int .u8 t72, .int .u8 t73, .int .u8 t74, .int .u8 t75, .int .u8 t76, .int .u8 t77, .int .u8 t78, .int .u8 t79, .int .u8 t80, .int .u8 t81, .int .u8 t82, .int .u8 t83, .int .u8 t84, .int .u8 t85, .int .u8 t86, .int .u8 t87, .int .u8 t88, .int .u8 t89, .int .u8 t90, .int .u8 t91, .int .u8 t92, .int .u8 t93, .int .u8 t94, .int .u8 t95, .int .u8 t96, .int .u8 t97, .int .u8 t98, .int .u8 t99, .int .u8 t100, .int .u8 t101]) (by kernel_rfl) (hs106.cells 3 0 rfl (by kernel_rfl)) a hf) ?_
  have hs107 : St w0 (L) w105 := hs106.drop 4
  exact ⟨t70, t71, t72, t73, t74, t75, t76, t77, t78, t79, t80, t81, t82, t83, t84, t85, t86, t87, t88, t89, t90, t91, t92, t93, t94, t95, t96, t97, t98, t99, t100, t101, rfl, hs107⟩
theorem rkey_spec {w0 w : World} {L : List Asn} (i : Int) (hi : 1 ≤ i ∧ i ≤ 8) (hs : St w0 (L) w) : Calls Tryz.prog 121 #[.string (⟨#[114, 97, 116, 99, 104, 101, 116, 32, 99, 108, 105, 101, 110, 116]⟩ : ByteArray), .int .i64 i, .int .i64 8] w (Ret fun rv w' => ∃ (ao : Option Addr) (co : Nat) (ol : List Int), rv = .slice ao ol.length co ∧ ol.length = 32 ∧ St w0 ((Sl ao co 5 1 byteV ol) :: L) w') := by
  refine enter (args := [.string (⟨#[114, 97, 116, 99, 104, 101, 116, 32, 99, 108, 105, 101, 110, 116]⟩ : ByteArray), .int .i64 i, .int .i64 8]) Tryz.func121 rfl Tryz.ntmps121 (Nat.le_of_ble_eq_true (by kernel_rfl)) ?_
  refine GoC.slots (S' := [(0, .string (⟨#[114, 97, 116, 99, 104, 101, 116, 32, 99, 108, 105, 101, 110, 116]⟩ : ByteArray)), (1, .int .i64 i), (2, .int .i64 8)]) rfl ?_
  refine GoC.seq ?_
  refine GoC.regT [1] (.rd 0 .done) (by kernel_rfl) (by kernel_rfl) ?_
  refine GoR.phaseK [(0, .gen [])] [6, 0, 1, 2] [] [(6, .slice none 0 0), (0, .string (⟨#[114, 97, 116, 99, 104, 101, 116, 32, 99, 108, 105, 101, 110, 116]⟩ : ByteArray)), (1, .int .i64 i), (2, .int .i64 8)] (by kernel_rfl) rfl ak0 ?_
  refine GoR.done (GoQ.thn (GoC.seq (GoC.seq ?_)))
  refine GoC.join (T := Unit) (E := fun _ => [(14, .bool ((decide ((i : Int) < 1)) || (decide ((i : Int) > 8)))), (6, .slice none 0 0), (0, .string (⟨#[114, 97, 116, 99, 104, 101, 116, 32, 99, 108, 105, 101, 110, 116]⟩ : ByteArray)), (1, .int .i64 i)]) (F := fun _ w => St w0 (L) w) ?_ ?_
  · refine GoC.regT [127, 127, 127, 127, 127, 127, 127] (.rd 0 (.rd 1 (.rd 2 (.rd 3 (.rd 4 (.rd 5 (.rd 6 .done))))))) (by kernel_rfl) (by kernel_rfl) ?_
    refine GoR.phaseK [(0, .gen []), (1, .gen []), (2, .gen [])] [10, 6, 0, 1, 2] [] [(10, .bool (decide ((i : Int) < 1))), (6, .slice none 0 0), (0, .string (⟨#[114, 97, 116, 99, 104, 101, 116, 32, 99, 108, 105, 101, 110, 116]⟩ : ByteArray)), (1, .int .i64 i), (2, .int .i64 8)] (by kernel_rfl) rfl ak0 ?_
    rcases Bool.eq_false_or_eq_true (decide ((i : Int) < 1)) with h1 | h1
    · refine GoR.setB 10 true (by decide) (by kernel_rfl) h1 ?_
      have h1' : (i : Int) < 1 := of_decide_eq_true h1
      refine GoR.phaseK [(3, .gen []), (4, .gen []), (5, .gen []), (6, .gen [])] [14, 6, 0, 1] [] [(14, .bool true), (6, .slice none 0 0), (0, .string (⟨#[114, 97, 116, 99, 104, 101, 116, 32, 99, 108, 105, 101, 110, 116]⟩ : ByteArray)), (1, .int .i64 i)] (by kernel_rfl) rfl ak0 ?_
      refine GoR.done ?_
      refine GoQ.pick [14, 6, 0, 1] (S' := [(14, .bool true), (6, .slice none 0 0), (0, .string (⟨#[114, 97, 116, 99, 104, 101, 116, 32, 99, 108, 105, 101, 110, 116]⟩ : ByteArray)), (1, .int .i64 i)]) (by kernel_rfl) ?_
      exact GoQ.meet1 () (by first | rfl | (simp only [h1, Bool.not_true, Bool.not_false, Bool.true_or, Bool.false_or, Bool.true_and, Bool.false_and, Bool.or_true, Bool.or_false, Bool.and_true, Bool.and_false]; done) | (simp [h1]; done)) hs
    · refine GoR.setB 10 false (by decide) (by kernel_rfl) h1 ?_
      have h1' : ¬ ((i : Int) < 1) := of_decide_eq_false h1
      refine GoR.phaseK [(3, .gen []), (4, .gen []), (5, .gen []), (6, .gen [])] [14, 6, 0, 1] [] [(14, .bool (decide ((i : Int) > 8))), (6, .slice none 0 0), (0, .string (⟨#[114, 97, 116, 99, 104, 101, 116, 32, 99, 108, 105, 101, 110, 116]⟩ : ByteArray)), (1, .int .i64 i)] (by kernel_rfl) rfl ak0 ?_
      refine GoR.done ?_
      refine GoQ.pick [14, 6, 0, 1] (S' := [(14, .bool (decide ((i : Int) > 8))), (6, .slice none 0 0), (0, .string (⟨#[114, 97, 116, 99, 104, 101, 116, 32, 99, 108, 105, 101, 110, 116]⟩ : ByteArray)), (1, .int .i64 i)]) (by kernel_rfl) ?_
      exact GoQ.meet1 () (by first | rfl | (simp only [h1, Bool.not_true, Bool.not_false, Bool.true_or, Bool.false_or, Bool.true_and, Bool.false_and, Bool.or_true, Bool.or_false, Bool.and_true, Bool.and_false]; done) | (simp [h1]; done)) hs
  intro _ w2 hs3
  refine GoQ.thn ?_
  refine GoC.cond (t := (decide ((i : Int) < 1)) || (decide ((i : Int) > 8))) (by kernel_rfl) (fun h4 => ?_) (fun h4 => ?_)
  · exfalso
    have hx := h4
    simp only [Bool.or_eq_true, decide_eq_true_eq] at hx
    omega
  · have h4a : (decide ((i : Int) < 1)) = false := (Bool.or_eq_false_iff.1 h4).1
    have h4a' : ¬ ((i : Int) < 1) := of_decide_eq_false h4a
    have h4b : (decide ((i : Int) > 8)) = false := (Bool.or_eq_false_iff.1 h4).2
    have h4b' : ¬ ((i : Int) > 8) := of_decide_eq_false h4b
    refine GoC.skip (GoQ.thn (GoC.seq ?_))
    refine GoC.regT [255, 255, 255, 255, 255, 255, 255, 255] (.rd 0 (.ef 1 (.rd 2 (.rd 3 (.ef 4 (.ef 5 (.ef 6 (.ef 7 .done)))))))) (by kernel_rfl) (by kernel_rfl) ?_
    refine GoR.phaseK [(0, .gen [])] [15, 6, 1] [] [(15, .string (⟨#[114, 97, 116, 99, 104, 101, 116, 32, 99, 108, 105, 101, 110, 116]⟩ : ByteArray)), (6, .slice none 0 0), (1, .int .i64 i)] (by kernel_rfl) rfl ak0 ?_
    refine GoR.strBytes rfl (by kernel_rfl) (src := 9) (dst := 87) (e := 5) (f := byteV) rfl (⟨#[114, 97, 116, 99, 104, 101, 116, 32, 99, 108, 105, 101, 110, 116]⟩ : ByteArray) (by kernel_rfl) (by kernel_rfl) (by kernel_rfl) (by kernel_rfl) (Nat.le_of_ble_eq_true rfl) hs3 ?_
    intro b5 m6 w7 hs8
    have hsb9 : (strB (⟨#[114, 97, 116, 99, 104, 101, 116, 32, 99, 108, 105, 101, 110, 116]⟩ : ByteArray)).length = 14 := rfl
    refine ⟨(opn (by kernel_rfl)), ?_⟩
    refine GoR.phaseK [(2, .gen []), (3, .gen [])] [18, 16, 6] [] [(18, .int .u64 (IntKind.u64.wrap i)), (16, .slice (some ⟨b5, 0, none⟩) ((strB (⟨#[114, 97, 116, 99, 104, 101, 116, 32, 99, 108, 105, 101, 110, 116]⟩ : ByteArray)).length) ((strB (⟨#[114, 97, 116, 99, 104, 101, 116, 32, 99, 108, 105, 101, 110, 116]⟩ : ByteArray)).length + m6)), (6, .slice none 0 0)] (by kernel_rfl) rfl ak0 ?_
    refine GoR.call rfl rfl (by kernel_rfl) (f := 101) (args := #[.slice (some ⟨b5, 0, none⟩) ((strB (⟨#[114, 97, 116, 99, 104, 101, 116, 32, 99, 108, 105, 101, 110, 116]⟩ : ByteArray)).length) ((strB (⟨#[114, 97, 116, 99, 104, 101, 116, 32, 99, 108, 105, 101, 110, 116]⟩ : ByteArray)).length + m6), .int .u64 (IntKind.u64.wrap i)]) (by kernel_rfl) Tryz.call101 (rword_spec (strB (⟨#[114, 97, 116, 99, 104, 101, 116, 32, 99, 108, 105, 101, 110, 116]⟩ : ByteArray)) (IntKind.u64.wrap i) (by first | omega | (simp only [List.length_append, List.length_cons, List.length_nil, strB_length]; omega) | (simp only [List.length_append, List.length_cons, List.length_nil] at *; omega) | (exact Nat.le_of_ble_eq_true rfl)) (fun h => nomatch h) (fun w h => strRow_rows h 0 rfl) hs8) ?_
    rintro v15 w16 ⟨ao10, co11, ol12, rfl, ho13, hs14⟩
    refine ⟨(opn (by kernel_rfl)), ?_⟩
    refine GoR.call rfl rfl (by kernel_rfl) (f := 119) (args := #[.slice ao10 ol12.length co11]) (by kernel_rfl) Tryz.call119 (rsum_spec ol12 (by first | omega | (simp only [List.length_append, List.length_cons, List.length_nil, strB_length]; omega) | (simp only [List.length_append, List.length_cons, List.length_nil] at *; omega) | (exact Nat.le_of_ble_eq_true rfl)) (hs14.slNone 0 rfl) (fun w h => h.rows 0 rfl (rbF).size _) hs14) ?_
    rintro v50 w51 ⟨t17, t18, t19, t20, t21, t22, t23, t24, t25, t26, t27, t28, t29, t30, t31, t32, t33, t34, t35, t36, t37, t38, t39, t40, t41, t42, t43, t44, t45, t46, t47, t48, rfl, hs49⟩
    refine ⟨(opn (by kernel_rfl)), ?_⟩
    refine GoR.alloc rfl rfl (by kernel_rfl) (z := .agg #[.int .u8 0, .int .u8 0, .int .u8 0, .int .u8 0, .int .u8 0, .int .u8 0, .int .u8 0, .int .u8 0, .int .u8 0, .int .u8 0, .int .u8 0, .int .u8 0, .int .u8 0, .int .u8 0, .int .u8 0, .int .u8 0, .int .u8 0, .int .u8 0, .int .u8 0, .int .u8 0, .int .u8 0, .int .u8 0, .int .u8 0, .int .u8 0, .int .u8 0, .int .u8 0, .int .u8 0, .int .u8 0, .int .u8 0, .int .u8 0, .int .u8 0, .int .u8 0]) (by kernel_rfl) hs49 (cs := #[.int .u8 0, .int .u8 0, .int .u8 0, .int .u8 0, .int .u8 0, .int .u8 0, .int .u8 0, .int .u8 0, .int .u8 0, .int .u8 0, .int .u8 0, .int .u8 0, .int .u8 0, .int .u8 0, .int .u8 0, .int .u8 0, .int .u8 0, .int .u8 0, .int .u8 0, .int .u8 0, .int .u8 0, .int .u8 0, .int .u8 0, .int .u8 0, .int .u8 0, .int .u8 0, .int .u8 0, .int .u8 0, .int .u8 0, .int .u8 0, .int .u8 0, .int .u8 0]) (by kernel_rfl) ?_
    intro b52 w53 hs54
    refine ⟨(opn (by kernel_rfl)), ?_⟩
    refine GoR.store rfl rfl (by kernel_rfl) (b := b52) (off := 0) (v := .agg #[.int .u8 t17, .int .u8 t18, .int .u8 t19, .int .u8 t20, .int .u8 t21, .int .u8 t22, .int .u8 t23, .int .u8 t24, .int .u8 t25, .int .u8 t26, .int .u8 t27, .int .u8 t28, .int .u8 t29, .int .u8 t30, .int .u8 t31, .int .u8 t32, .int .u8 t33, .int .u8 t34, .int .u8 t35, .int .u8 t36, .int .u8 t37, .int .u8 t38, .int .u8 t39, .int .u8 t40, .int .u8 t41, .int .u8 t42, .int .u8 t43, .int .u8 t44, .int .u8 t45, .int .u8 t46, .int .u8 t47, .int .u8 t48]) (by kernel_rfl) (by kernel_rfl) (ti := Tryz.t25) (by kernel_rfl) hs54 0 rfl (by kernel_rfl) (by kernel_rfl) (Nat.le_of_ble_eq_true (by kernel_rfl)) (cs' := #[.int .u8 t17, .int .u8 t18, .int .u8 t19, .int .u8 t20, .int .u8 t21, .int .u8 t22, .int .u8 t23, .int .u8 t24, .int .u8 t25, .int .u8 t26, .int .u8 t27, .int .u8 t28, .int .u8 t29, .int .u8 t30, .int .u8 t31, .int .u8 t32, .int .u8 t33, .int .u8 t34, .int .u8 t35, .int .u8 t36, .int .u8 t37, .int .u8 t38, .int .u8 t39, .int .u8 t40, .int .u8 t41, .int .u8 t42, .int .u8 t43, .int .u8 t44, .int .u8 t45, .int .u8 t46, .int .u8 t47, .int .u8 t48]) (L' := (Cel b52 #[.int .u8 t17, .int .u8 t18, .int .u8 t19, .int .u8 t20, .int .u8 t21, .int .u8 t22, .int .u8 t23, .int .u8 t24, .int .u8 t25, .int .u8 t26, .int .u8 t27, .int .u8 t28, .int .u8 t29, .int .u8 t30, .int .u8 t31, .int .u8 t32, .int .u8 t33, .int .u8 t34, .int .u8 t35, .int .u8 t36, .int .u8 t37, .int .u8 t38, .int .u8 t39, .int .u8 t40, .int .u8 t41, .int .u8 t42, .int .u8 t43, .int .u8 t44, .int .u8 t45, .int .u8 t46, .int .u8 t47, .int .u8 t48] 25) :: (Sl ao10 co11 5 1 byteV ol12) :: (Cel b5 (arrCells byteV (strB (⟨#[114, 97, 116, 99, 104, 101, 116, 32, 99, 108, 105, 101, 110, 116]⟩ : ByteArray) ++ List.replicate m6 0)) 5) :: L) (by kernel_rfl) rfl ?_
    intro w55 hs56
    refine ⟨(opn (by kernel_rfl)), ?_⟩
    refine GoR.done (GoQ.thn (GoC.seq ?_))
    refine GoC.regT [15, 15, 15, 15] (.ef 0 (.rd 1 (.ef 2 (.rd 3 .done)))) (by kernel_rfl) (by kernel_rfl) ?_
    refine GoR.sliceLit0 rfl (by kernel_rfl) (t := 87) (e := 5) (by kernel_rfl) (by kernel_rfl) (ti := Tryz.t5) (by kernel_rfl) hs56 ?_
    intro b57 w58 hs59 hz60
    have hs61 : St w0 ((Sl (some ⟨b57, 0, none⟩) 0 5 1 byteV ([] : List Int)) :: (Cel b52 #[.int .u8 t17, .int .u8 t18, .int .u8 t19, .int .u8 t20, .int .u8 t21, .int .u8 t22, .int .u8 t23, .int .u8 t24, .int .u8 t25, .int .u8 t26, .int .u8 t27, .int .u8 t28, .int .u8 t29, .int .u8 t30, .int .u8 t31, .int .u8 t32, .int .u8 t33, .int .u8 t34, .int .u8 t35, .int .u8 t36, .int .u8 t37, .int .u8 t38, .int .u8 t39, .int .u8 t40, .int .u8 t41, .int .u8 t42, .int .u8 t43, .int .u8 t44, .int .u8 t45, .int .u8 t46, .int .u8 t47, .int .u8 t48] 25) :: (Sl ao10 co11 5 1 byteV ol12) :: (Cel b5 (arrCells byteV (strB (⟨#[114, 97, 116, 99, 104, 101, 116, 32, 99, 108, 105, 101, 110, 116]⟩ : ByteArray) ++ List.replicate m6 0)) 5) :: L) w58 := St.slOf (l := ([] : List Int)) (f := byteV) hs59 hz60 (rbF).size (by simp only [List.length_cons, List.length_nil, maxLen]; omega) (by kernel_rfl)
    refine ⟨(opn (by kernel_rfl)), ?_⟩
    refine GoR.phaseK [(1, .as_ (.slice (some ⟨b52, 0, none⟩) 32 32) (.sub 0 32))] [22, 21, 6] [(1, [.prop ((((none : Option Operand)) = none → (0 : Nat) = 0) ∧ (((none : Option Operand)) = none → (32 : Nat) = 32) ∧ (0 : Nat) ≤ 32 ∧ (32 : Nat) ≤ 32), .prop (Value.slice (some (if 32 = 0 then Addr.mk b52 0 none else (Addr.mk b52 0 none).add (0 * 1))) (32 - 0) (32 - 0) = Value.slice (some ⟨b52, 0, none⟩) 32 32)])] [(22, .slice (some ⟨b52, 0, none⟩) 32 32), (21, .slice (some ⟨b57, 0, none⟩) 0 0), (6, .slice none 0 0)] (by kernel_rfl) rfl (ak (okp ⟨(by first | (intro _; rfl) | (intro hc; cases hc)), (by first | (intro _; rfl) | (intro hc; cases hc)), (by omega), (by omega)⟩ (okp (subArr0 _ _ _ _ _ (by decide)) ok0)) ak0) ?_
    have hs64 : St w0 ((Sl (some ⟨b57, 0, none⟩) 0 5 1 byteV ([] : List Int)) :: (Cel b52 (arrCells byteV ([t17, t18, t19, t20, t21, t22, t23, t24, t25, t26, t27, t28, t29, t30, t31, t32, t33, t34, t35, t36, t37, t38, t39, t40, t41, t42, t43, t44, t45, t46, t47, t48])) 25) :: (Sl ao10 co11 5 1 byteV ol12) :: (Cel b5 (arrCells byteV (strB (⟨#[114, 97, 116, 99, 104, 101, 116, 32, 99, 108, 105, 101, 110, 116]⟩ : ByteArray) ++ List.replicate m6 0)) 5) :: L) w58 := Eq.mp (by kernel_rfl) hs61
    refine GoR.append rfl (by kernel_rfl) rbOK rbF (ad := some ⟨b57, 0, none⟩) (c := 0) (xs := ([] : List Int)) (ys := [t17, t18, t19, t20, t21, t22, t23, t24, t25, t26, t27, t28, t29, t30, t31, t32, t33, t34, t35, t36, t37, t38, t39, t40, t41, t42, t43, t44, t45, t46, t47, t48]) (adx := some ⟨b52, 0, none⟩) (cx := 32) (0 : Int) (by kernel_rfl) hs64 (arr_rows hs64 1 rfl (rbF).size (0 : Int)) (fun h => nomatch h) (by first | omega | (simp only [List.length_append, List.length_cons, List.length_nil, strB_length]; omega)) (by first | omega | (simp only [List.length_append, List.length_cons, List.length_nil, strB_length]; omega)) ?_
    intro ad65 c66 w62 hs63
    refine ⟨(opn (by kernel_rfl)), ?_⟩
    refine GoR.phaseK [(3, .gen [])] [6] [] [(6, .slice ad65 (([t17, t18, t19, t20, t21, t22, t23, t24, t25, t26, t27, t28, t29, t30, t31, t32, t33, t34, t35, t36, t37, t38, t39, t40, t41, t42, t43, t44, t45, t46, t47, t48]).length) c66)] (by kernel_rfl) rfl ak0 ?_
    refine GoR.done (GoQ.thn (GoC.ret ?_))
    refine GoQ.done (.inl rfl) (v := .slice ad65 (([t17, t18, t19, t20, t21, t22, t23, t24, t25, t26, t27, t28, t29, t30, t31, t32, t33, t34, t35, t36, t37, t38, t39, t40, t41, t42, t43, t44, t45, t46, t47, t48]).length) c66) (fun a hf => results1 rfl (by kernel_rfl) a hf) ?_
    have hs67 : St w0 ((Cel b52 (arrCells byteV ([t17, t18, t19, t20, t21, t22, t23, t24, t25, t26, t27, t28, t29, t30, t31, t32, t33, t34, t35, t36, t37, t38, t39, t40, t41, t42, t43, t44, t45, t46, t47, t48])) 25) :: (Sl ao10 co11 5 1 byteV ol12) :: (Cel b5 (arrCells byteV (strB (⟨#[114, 97, 116, 99, 104, 101, 116, 32, 99, 108, 105, 101, 110, 116]⟩ : ByteArray) ++ List.replicate m6 0)) 5) :: (Sl ad65 c66 5 1 byteV ([t17, t18, t19, t20, t21, t22, t23, t24, t25, t26, t27, t28, t29, t30, t31, t32, t33, t34, t35, t36, t37, t38, t39, t40, t41, t42, t43, t44, t45, t46, t47, t48])) :: L) w62 := ((((hs63.pull 0 rfl).pull 3 rfl).pull 3 rfl).pull 3 rfl)
    have hs68 : St w0 ((Sl ad65 c66 5 1 byteV ([t17, t18, t19, t20, t21, t22, t23, t24, t25, t26, t27, t28, t29, t30, t31, t32, t33, t34, t35, t36, t37, t38, t39, t40, t41, t42, t43, t44, t45, t46, t47, t48])) :: L) w62 := hs67.drop 3
    exact ⟨ad65, c66, [t17, t18, t19, t20, t21, t22, t23, t24, t25, t26, t27, t28, t29, t30, t31, t32, t33, t34, t35, t36, t37, t38, t39, t40, t41, t42, t43, t44, t45, t46, t47, t48], rfl, rfl, hs68⟩
theorem rclient_spec {w0 w : World} {L : List Asn} (i : Int) (hi : 1 ≤ i ∧ i ≤ 8) (hs : St w0 (L) w) : Calls Tryz.prog 65 #[.int .i64 i] w (Ret fun rv w' => ∃ (ao : Option Addr) (co : Nat) (ol : List Int), rv = .slice ao ol.length co ∧ ol.length = 32 ∧ St w0 ((Sl ao co 5 1 byteV ol) :: L) w') := by
  refine enter (args := [.int .i64 i]) Tryz.func65 rfl Tryz.ntmps65 (Nat.le_of_ble_eq_true (by kernel_rfl)) ?_
  refine GoC.slots (S' := [(0, .int .i64 i)]) rfl ?_
  refine GoC.seq ?_
  refine GoC.regT [1] (.rd 0 .done) (by kernel_rfl) (by kernel_rfl) ?_
  refine GoR.phaseK [(0, .gen [])] [2, 0] [] [(2, .slice none 0 0), (0, .int .i64 i)] (by kernel_rfl) rfl ak0 ?_
  refine GoR.done (GoQ.thn (GoC.seq ?_))
  refine GoC.regT [7, 7, 7] (.rd 0 (.ef 1 (.rd 2 .done))) (by kernel_rfl) (by kernel_rfl) ?_
  refine GoR.phaseK [(0, .gen [])] [3, 2] [] [(3, .int .i64 i), (2, .slice none 0 0)] (by kernel_rfl) rfl ak0 ?_
  refine GoR.call rfl rfl (by kernel_rfl) (f := 121) (args := #[.string (⟨#[114, 97, 116, 99, 104, 101, 116, 32, 99, 108, 105, 101, 110, 116]⟩ : ByteArray), .int .i64 i, .int .i64 8]) (by kernel_rfl) Tryz.call121 (rkey_spec i (by first | assumption | omega) hs) ?_
  rintro v6 w7 ⟨ao1, co2, ol3, rfl, ho4, hs5⟩
  refine ⟨(opn (by kernel_rfl)), ?_⟩
  refine GoR.phaseK [(2, .gen [])] [2] [] [(2, .slice ao1 ol3.length co2)] (by kernel_rfl) rfl ak0 ?_
  refine GoR.done (GoQ.thn (GoC.ret ?_))
  refine GoQ.done (.inl rfl) (v := .slice ao1 ol3.length co2) (fun a hf => results1 rfl (by kernel_rfl) a hf) ?_
  exact ⟨ao1, co2, ol3, rfl, (by omega), hs5⟩
end Go.Proofs.YtapmfbjlhjekiaaGreatDoor
