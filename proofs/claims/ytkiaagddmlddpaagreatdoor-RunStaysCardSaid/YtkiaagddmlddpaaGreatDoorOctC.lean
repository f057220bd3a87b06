/-
  A cut through bytes. Conditions: what is asked for is there.
-/
import Derived.Test.YtkiaagddmlddpaaGreatDoorOctN
namespace Go.Proofs.YtkiaagddmlddpaaGreatDoor
open Go.RowKit Go.Sx
set_option linter.unusedVariables false
set_option linter.unusedSimpArgs false
set_option linter.unnecessarySimpa false
set_option maxRecDepth 100000
theorem cloneR_spec {w0 w : World} {L : List Asn} {ab : Nat} {aoff : Nat} {ac : Nat} (l : List Int) (hl : l.length ≤ 1000000000) (hrow : ∀ w, St w0 L w → RowsAt w (some ⟨ab, aoff, none⟩) l.length 1 (fun k => byteC (l.getD k (0 : Int)))) (hs : St w0 (L) w) : Calls Tryz.prog 52 #[.slice (some ⟨ab, aoff, none⟩) l.length ac] w (Ret fun rv w' => ∃ (ao : Option Addr) (co : Nat), rv = .slice ao l.length co ∧ St w0 ((Sl ao co 5 1 byteC l) :: L) w') := by
  refine enter (args := [.slice (some ⟨ab, aoff, none⟩) l.length ac]) Tryz.func52 rfl Tryz.ntmps52 (Nat.le_of_ble_eq_true (by kernel_rfl)) ?_
  refine GoC.slots (S' := [(0, .slice (some ⟨ab, aoff, none⟩) l.length ac)]) rfl ?_
  refine GoC.seq ?_
  refine GoC.regT [1] (.rd 0 .done) (by kernel_rfl) (by kernel_rfl) ?_
  refine GoR.phaseK [(0, .gen [])] [2, 0] [] [(2, .slice none 0 0), (0, .slice (some ⟨ab, aoff, none⟩) l.length ac)] (by kernel_rfl) rfl ak0 ?_
  refine GoR.done (GoQ.thn (GoC.seq (GoC.seq ?_)))
  refine GoC.regT [3, 3] (.rd 0 (.rd 1 .done)) (by kernel_rfl) (by kernel_rfl) ?_
  refine GoR.phaseK [(0, .gen []), (1, .gen [])] [4, 2, 0] [] [(4, .bool false), (2, .slice none 0 0), (0, .slice (some ⟨ab, aoff, none⟩) l.length ac)] (by kernel_rfl) rfl ak0 ?_
  refine GoR.done (GoQ.thn (GoC.condF (by kernel_rfl) (GoC.skip (GoQ.thn (GoC.seq ?_)))))
  refine GoC.regT [15, 15, 15, 15] (.ef 0 (.rd 1 (.ef 2 (.rd 3 .done)))) (by kernel_rfl) (by kernel_rfl) ?_
  refine GoR.sliceLit0 rfl (by kernel_rfl) (t := 23) (e := 5) (by kernel_rfl) (by kernel_rfl) (ti := Tryz.t5) (by kernel_rfl) hs ?_
  intro b1 w2 hs3 hz4
  have hs5 : St w0 ((Sl (some ⟨b1, 0, none⟩) 0 5 1 byteC ([] : List Int)) :: L) w2 := St.slOf (l := ([] : List Int)) (f := byteC) hs3 hz4 (byteF).size (by simp only [List.length_cons, List.length_nil, maxLen]; omega) (by kernel_rfl)
  refine ⟨(opn (by kernel_rfl)), ?_⟩
  refine GoR.phaseK [(1, .gen [])] [6, 5, 2] [] [(6, .slice (some ⟨ab, aoff, none⟩) l.length ac), (5, .slice (some ⟨b1, 0, none⟩) 0 0), (2, .slice none 0 0)] (by kernel_rfl) rfl ak0 ?_
  refine GoR.append rfl (by kernel_rfl) bytesOK byteF (ad := some ⟨b1, 0, none⟩) (c := 0) (xs := ([] : List Int)) (ys := l) (adx := some ⟨ab, aoff, none⟩) (cx := ac) (0 : Int) (by kernel_rfl) hs5 (hrow _ (hs5.drop 1)) (fun h => nomatch h) (by simp only [List.length_nil]; omega) (by simp only [List.length_nil]; omega) ?_
  intro ad8 c9 w6 hs7
  refine ⟨(opn (by kernel_rfl)), ?_⟩
  refine GoR.phaseK [(3, .gen [])] [2] [] [(2, .slice ad8 ((l).length) c9)] (by kernel_rfl) rfl ak0 ?_
  refine GoR.done (GoQ.thn (GoC.ret ?_))
  refine GoQ.done (.inl rfl) (v := .slice ad8 ((l).length) c9) (fun a hf => results1 rfl (by kernel_rfl) a hf) ?_
  exact ⟨ad8, c9, (by simp), hs7⟩
theorem cloneV_spec {w0 w : World} {L : List Asn} {ad : Option Addr} {c : Nat} (l : List Int) (hl : l.length ≤ 1000000000) (hsm : ∃ b off, ad = some ⟨b, off, none⟩) (hr : ∀ w, St w0 L w → RowsAt w ad l.length 1 (fun k => byteC (l.getD k (0 : Int)))) (hs : St w0 L w) :
    Calls Tryz.prog 52 #[.slice ad l.length c] w (Ret fun rv w' => ∃ (ao : Option Addr) (co : Nat), rv = .slice ao l.length co ∧ St w0 (Sl ao co 5 1 byteC l :: L) w') := by
  obtain ⟨b, off, rfl⟩ := hsm
  exact cloneR_spec l hl hr hs
theorem take_spec {w0 w : World} {L : List Asn} {c : Nat} {az : Option Addr} {cz : Nat} (Q : Asn) (r : List Int) (n : Nat) (hQ : ∀ w, St w0 L w → Q.holds w) (hcz : r.length ≤ cz) (hsm : ∃ b off, az = some ⟨b, off, none⟩) (hz : ∀ w, Q.holds w → RowsAt w az r.length 1 (fun k => byteC (r.getD k (0 : Int)))) (hn : n ≤ r.length) (hrl : r.length ≤ 1000000) (hs : St w0 ((Cel c #[.slice az r.length cz, .bool false] 126) :: L) w) : Calls Tryz.prog 53 #[.pointer (some ⟨c, 0, none⟩), .int .i64 (n : Nat)] w (Ret fun rv w' => rv = .slice az ((r.take n).length) cz ∧ St w0 ((Cel c #[.slice (subAd az cz n 1) ((r.drop n).length) (cz - n), .bool false] 126) :: L) w') := by
  refine enter (args := [.pointer (some ⟨c, 0, none⟩), .int .i64 (n : Nat)]) Tryz.func53 rfl Tryz.ntmps53 (Nat.le_of_ble_eq_true (by kernel_rfl)) ?_
  refine GoC.slots (S' := [(0, .pointer (some ⟨c, 0, none⟩)), (1, .int .i64 (n : Nat))]) rfl ?_
  refine GoC.seq ?_
  refine GoC.regT [1] (.rd 0 .done) (by kernel_rfl) (by kernel_rfl) ?_
  refine GoR.phaseK [(0, .gen [])] [4, 0, 1] [] [(4, .slice none 0 0), (0, .pointer (some ⟨c, 0, none⟩)), (1, .int .i64 (n : Nat))] (by kernel_rfl) rfl ak0 ?_
  refine GoR.done (GoQ.thn (GoC.seq (GoC.seq ?_)))
  refine GoC.regT [3, 3] (.rd 0 (.rd 1 .done)) (by kernel_rfl) (by kernel_rfl) ?_
  refine GoR.phaseK [(0, .gen []), (1, .gen [])] [7, 4, 0, 1] [] [(7, .bool false), (4, .slice none 0 0), (0, .pointer (some ⟨c, 0, none⟩)), (1, .int .i64 (n : Nat))] (by kernel_rfl) rfl ak0 ?_
  refine GoR.done (GoQ.thn (GoC.condF (by kernel_rfl) (GoC.skip (GoQ.thn (GoC.seq (GoC.seq ?_))))))
  refine GoC.regT [2097151, 2097151, 2097151, 2097151, 2097151, 2097151, 2097151, 2097151, 2097151, 2097151, 2097151, 2097151, 2097151, 2097151, 2097151, 2097151, 2097151, 2097151, 2097151, 2097151, 2097151] (.rd 0 (.rd 1 (.rd 2 (.rd 3 (.rd 4 (.rd 5 (.rd 6 (.rd 7 (.rd 8 (.rd 9 (.rd 10 (.rd 11 (.rd 12 (.rd 13 (.rd 14 (.rd 15 (.rd 16 (.rd 17 (.rd 18 (.rd 19 (.ef 20 .done))))))))))))))))))))) (by kernel_rfl) (by kernel_rfl) ?_
  refine GoR.phaseK [(0, .gen []), (1, .gen []), (2, .gen []), (3, .gen []), (4, .gen [.bool false]), (5, .gen []), (6, .gen []), (7, .gen []), (8, .gen []), (9, .gen [])] [17, 8, 4, 0, 1] [(4, [.cell ⟨c, 1, none⟩ (.bool false)])] [(17, .bool (decide (((n : Nat) : Int) < 0))), (8, .pointer (some ⟨c, 0, none⟩)), (4, .slice none 0 0), (0, .pointer (some ⟨c, 0, none⟩)), (1, .int .i64 (n : Nat))] (by kernel_rfl) rfl (ak (okc (hs.cell 0 rfl (by kernel_rfl)) ok0) ak0) ?_
  rcases Bool.eq_false_or_eq_true (decide (((n : Nat) : Int) < 0)) with h1 | h1
  · refine GoR.setB 17 true (by decide) (by kernel_rfl) h1 ?_
    have h1' : ((n : Nat) : Int) < 0 := of_decide_eq_true h1
    exfalso; first | omega | (have h9 := of_decide_eq_true h1; omega)
  · refine GoR.setB 17 false (by decide) (by kernel_rfl) h1 ?_
    have h1' : ¬ (((n : Nat) : Int) < 0) := of_decide_eq_false h1
    refine GoR.phaseK [(10, .gen []), (11, .gen []), (12, .gen []), (13, .gen []), (14, .gen [.slice az r.length cz]), (15, .gen []), (16, .gen []), (17, .gen []), (18, .gen []), (19, .gen [])] [27, 25, 4, 0, 1] [(14, [.cell ⟨c, 0, none⟩ (.slice az r.length cz)])] [(27, .pointer (some ⟨c, 1, none⟩)), (25, .bool (decide (((n : Nat) : Int) > (r.length : Nat)))), (4, .slice none 0 0), (0, .pointer (some ⟨c, 0, none⟩)), (1, .int .i64 (n : Nat))] (by kernel_rfl) rfl (ak (okc (hs.cell 0 rfl (by kernel_rfl)) ok0) ak0) ?_
    refine GoR.store rfl rfl (by kernel_rfl) (b := c) (off := 1) (v := .bool (decide (((n : Nat) : Int) > (r.length : Nat)))) (by kernel_rfl) (by kernel_rfl) (ti := Tryz.t4) (by kernel_rfl) hs 0 rfl (by kernel_rfl) (by kernel_rfl) (Nat.le_of_ble_eq_true (by kernel_rfl)) (cs' := #[.slice az r.length cz, .bool (decide (((n : Nat) : Int) > (r.length : Nat)))]) (L' := (Cel c #[.slice az r.length cz, .bool (decide (((n : Nat) : Int) > (r.length : Nat)))] 126) :: L) (by kernel_rfl) rfl ?_
    intro w2 hs3
    refine ⟨(opn (by kernel_rfl)), ?_⟩
    refine GoR.done (GoQ.thn (GoC.seq ?_))
    refine GoC.regT [15, 15, 15, 15] (.rd 0 (.rd 1 (.rd 2 (.rd 3 .done)))) (by kernel_rfl) (by kernel_rfl) ?_
    refine GoR.phaseK [(0, .gen []), (1, .gen []), (2, .gen []), (3, .gen [.bool (decide (((n : Nat) : Int) > (r.length : Nat)))])] [31, 4, 0, 1] [(3, [.cell ⟨c, 1, none⟩ (.bool (decide (((n : Nat) : Int) > (r.length : Nat))))])] [(31, .bool (decide (((n : Nat) : Int) > (r.length : Nat)))), (4, .slice none 0 0), (0, .pointer (some ⟨c, 0, none⟩)), (1, .int .i64 (n : Nat))] (by kernel_rfl) rfl (ak (okc (hs3.cell 0 rfl (by kernel_rfl)) ok0) ak0) ?_
    refine GoR.done (GoQ.thn ?_)
    refine GoC.cond (t := decide (((n : Nat) : Int) > (r.length : Nat))) (by kernel_rfl) (fun h4 => ?_) (fun h4 => ?_)
    · have h4' : ((n : Nat) : Int) > (r.length : Nat) := of_decide_eq_true h4
      exfalso; first | omega | (have h9 := of_decide_eq_true h4; omega)
    · have h4' : ¬ (((n : Nat) : Int) > (r.length : Nat)) := of_decide_eq_false h4
      rw [h4] at hs3
      refine GoC.skip (GoQ.thn (GoC.seq ?_))
      refine GoC.regT [127, 127, 127, 127, 127, 127, 127] (.rd 0 (.rd 1 (.rd 2 (.rd 3 (.rd 4 (.rd 5 (.rd 6 .done))))))) (by kernel_rfl) (by kernel_rfl) ?_
      refine GoR.phaseK [(0, .gen []), (1, .gen []), (2, .gen []), (3, .gen [.slice az r.length cz]), (4, .gen []), (5, .as_ (.slice az (((r).take n).length) cz) (.sub 0 n)), (6, .gen [])] [5, 4, 0, 1] [(3, [.cell ⟨c, 0, none⟩ (.slice az r.length cz)]), (5, [.prop (((n : Nat) : Int) = ((n : Nat) : Int)), .prop (((none : Option Operand) = none → (0 : Nat) = 0) ∧ (some (Operand.tmp 36) = none → (n : Nat) = r.length) ∧ (0 : Nat) ≤ n ∧ (n : Nat) ≤ cz), .prop (Value.slice (if cz = 0 then az else (az : Option Addr).map (fun a => a.add (0 * 1))) (n - 0) (cz - 0) = Value.slice az (((r).take n).length) cz)])] [(5, .slice az (((r).take n).length) cz), (4, .slice none 0 0), (0, .pointer (some ⟨c, 0, none⟩)), (1, .int .i64 (n : Nat))] (by kernel_rfl) rfl (ak (okc (hs3.cell 0 rfl (by kernel_rfl)) ok0) (ak (okp (by omega) (okp ⟨(by first | (intro _; rfl) | (intro hc; cases hc)), (by first | (intro _; rfl) | (intro hc; cases hc)), (by omega), (by omega)⟩ (okp (subSl0 (by simp only [List.length_take, List.length_drop] <;> omega)) ok0))) ak0)) ?_
      refine GoR.done (GoQ.thn (GoC.seq ?_))
      refine GoC.regT [1023, 1023, 1023, 1023, 1023, 1023, 1023, 1023, 1023, 1023] (.rd 0 (.rd 1 (.rd 2 (.rd 3 (.rd 4 (.rd 5 (.rd 6 (.rd 7 (.rd 8 (.ef 9 .done)))))))))) (by kernel_rfl) (by kernel_rfl) ?_
      refine GoR.phaseK [(0, .gen []), (1, .gen []), (2, .gen []), (3, .gen []), (4, .gen [.slice az r.length cz]), (5, .gen []), (6, .as_ (.slice (subAd az cz n 1) (((r).drop n).length) (cz - n)) (.sub n r.length)), (7, .gen []), (8, .gen [])] [46, 44, 5, 4] [(4, [.cell ⟨c, 0, none⟩ (.slice az r.length cz)]), (6, [.prop (((n : Nat) : Int) = ((n : Nat) : Int)), .prop ((some (Operand.tmp 43) = none → (n : Nat) = 0) ∧ ((none : Option Operand) = none → (r.length : Nat) = r.length) ∧ (n : Nat) ≤ r.length ∧ (r.length : Nat) ≤ cz), .prop (Value.slice (if cz = n then az else (az : Option Addr).map (fun a => a.add (n * 1))) (r.length - n) (cz - n) = Value.slice (subAd az cz n 1) (((r).drop n).length) (cz - n))])] [(46, .pointer (some ⟨c, 0, none⟩)), (44, .slice (subAd az cz n 1) (((r).drop n).length) (cz - n)), (5, .slice az (((r).take n).length) cz), (4, .slice none 0 0)] (by kernel_rfl) rfl (ak (okc (hs3.cell 0 rfl (by kernel_rfl)) ok0) (ak (okp (by omega) (okp ⟨(by first | (intro _; rfl) | (intro hc; cases hc)), (by first | (intro _; rfl) | (intro hc; cases hc)), (by omega), (by omega)⟩ (okp (subSl (by simp only [List.length_take, List.length_drop] <;> omega)) ok0))) ak0)) ?_
      refine GoR.store rfl rfl (by kernel_rfl) (b := c) (off := 0) (v := .slice (subAd az cz n 1) (((r).drop n).length) (cz - n)) (by kernel_rfl) (by kernel_rfl) (ti := Tryz.t23) (by kernel_rfl) hs3 0 rfl (by kernel_rfl) (by kernel_rfl) (Nat.le_of_ble_eq_true (by kernel_rfl)) (cs' := #[.slice (subAd az cz n 1) (((r).drop n).length) (cz - n), .bool false]) (L' := (Cel c #[.slice (subAd az cz n 1) (((r).drop n).length) (cz - n), .bool false] 126) :: L) (by kernel_rfl) rfl ?_
      intro w5 hs6
      refine ⟨(opn (by kernel_rfl)), ?_⟩
      refine GoR.done (GoQ.thn (GoC.seq ?_))
      refine GoC.regT [3, 3] (.rd 0 (.rd 1 .done)) (by kernel_rfl) (by kernel_rfl) ?_
      refine GoR.phaseK [(0, .gen []), (1, .gen [])] [4] [] [(4, .slice az (((r).take n).length) cz)] (by kernel_rfl) rfl ak0 ?_
      refine GoR.done (GoQ.thn (GoC.ret ?_))
      refine GoQ.done (.inl rfl) (v := .slice az (((r).take n).length) cz) (fun a hf => results1 rfl (by kernel_rfl) a hf) ?_
      exact ⟨rfl, hs6⟩
theorem sum_spec {w0 w : World} {L : List Asn} {c : Nat} {az : Option Addr} {cz : Nat} (Q : Asn) (r : List Int) (n : Nat) (hQ : ∀ w, St w0 L w → Q.holds w) (hcz : r.length ≤ cz) (hsm : ∃ b off, az = some ⟨b, off, none⟩) (hz : ∀ w, Q.holds w → RowsAt w az r.length 1 (fun k => byteC (r.getD k (0 : Int)))) (hn : n ≤ r.length) (hrl : r.length ≤ 1000000) (hs : St w0 ((Cel c #[.slice az r.length cz, .bool false] 126) :: L) w) : Calls Tryz.prog 54 #[.func (.func 53) #[.pointer (some ⟨c, 0, none⟩)] #[], .int .i64 (n : Nat)] w (Ret fun rv w' => rv = .int .u64 (numB (r.take n)) ∧ St w0 ((Cel c #[.slice (subAd az cz n 1) ((r.drop n).length) (cz - n), .bool false] 126) :: L) w') := by
  refine enter (args := [.func (.func 53) #[.pointer (some ⟨c, 0, none⟩)] #[], .int .i64 (n : Nat)]) Tryz.func54 rfl Tryz.ntmps54 (Nat.le_of_ble_eq_true (by kernel_rfl)) ?_
  refine GoC.slots (S' := [(0, .func (.func 53) #[.pointer (some ⟨c, 0, none⟩)] #[]), (1, .int .i64 (n : Nat))]) rfl ?_
  refine GoC.seq ?_
  refine GoC.regT [1] (.rd 0 .done) (by kernel_rfl) (by kernel_rfl) ?_
  refine GoR.phaseK [(0, .gen [])] [4, 0, 1] [] [(4, .int .u64 0), (0, .func (.func 53) #[.pointer (some ⟨c, 0, none⟩)] #[]), (1, .int .i64 (n : Nat))] (by kernel_rfl) rfl ak0 ?_
  refine GoR.done (GoQ.thn (GoC.seq (GoC.seq ?_)))
  refine GoC.regT [31, 31, 31, 31, 31] (.rd 0 (.rd 1 (.ef 2 (.rd 3 (.rd 4 .done))))) (by kernel_rfl) (by kernel_rfl) ?_
  refine GoR.phaseK [(0, .gen []), (1, .gen [])] [8, 7, 4] [] [(8, .int .i64 (n : Nat)), (7, .func (.func 53) #[.pointer (some ⟨c, 0, none⟩)] #[]), (4, .int .u64 0)] (by kernel_rfl) rfl ak0 ?_
  refine GoR.call rfl rfl (by kernel_rfl) (f := 53) (args := #[.pointer (some ⟨c, 0, none⟩), .int .i64 (n : Nat)]) (by kernel_rfl) Tryz.call53 (take_spec Q r n (fun w h => hQ w (h.drop 0)) (by first | assumption | omega) (by first | assumption | omega) (by first | assumption | omega) (by first | assumption | omega) (by first | assumption | omega) hs) ?_
  rintro v2 w3 ⟨rfl, hs1⟩
  refine ⟨(opn (by kernel_rfl)), ?_⟩
  refine GoR.phaseK [(3, .gen []), (4, .gen [])] [11, 10, 9, 4] [] [(11, .int .i64 0), (10, .int .i64 ((r.take n).length : Nat)), (9, .slice az ((r.take n).length) cz), (4, .int .u64 0)] (by kernel_rfl) rfl ak0 ?_
  refine GoR.done (GoQ.thn (GoC.block ?_))
  refine GoC.loop (T := Nat × Int × (Option Addr)) (fun gg => [(4, .int .u64 gg.2.1), (9, .slice gg.2.2 ((r.take n).length) cz), (10, .int .i64 ((r.take n).length : Nat)), (11, .int .i64 (gg.1 : Nat))]) (fun gg w => (gg.1 ≤ (r.take n).length ∧ gg.2.1 = numB ((r.take n).take gg.1) ∧ ∀ w, St w0 L w → RowsAt w gg.2.2 (r.take n).length 1 (fun k => byteC ((r.take n).getD k (0 : Int)))) ∧ St w0 ((Cel c #[.slice (subAd az cz n 1) ((r.drop n).length) (cz - n), .bool false] 126) :: L) w) (fun gg => (r.take n).length - gg.1) (0, 0, az) [4, 9, 10, 11] (by kernel_rfl) ⟨⟨Nat.zero_le _, rfl, fun w h => RowsAt.takeL (hz w (hQ w h)) n hn⟩, hs1⟩ ?_
  rintro ⟨jj, z, aq⟩ w4 ⟨hp0, hs5⟩
  have hp : jj ≤ (r.take n).length ∧ z = numB ((r.take n).take jj) ∧ ∀ w, St w0 L w → RowsAt w aq (r.take n).length 1 (fun k => byteC ((r.take n).getD k (0 : Int))) := hp0
  have hs6 : St w0 ((Cel c #[.slice (subAd az cz n 1) ((r.drop n).length) (cz - n), .bool false] 126) :: L) w4 := hs5
  refine GoC.slots (S' := [(4, .int .u64 z), (9, .slice aq ((r.take n).length) cz), (10, .int .i64 ((r.take n).length : Nat)), (11, .int .i64 (jj : Nat))]) rfl ?_
  have hq := hp.2.2
  have htl : (r.take n).length = n := by rw [List.length_take]; omega
  refine GoC.seq ?_
  refine GoC.regT [1] (.rd 0 .done) (by kernel_rfl) (by kernel_rfl) ?_
  refine GoR.phaseK [(0, .gen [])] [12, 4, 9, 10, 11] [] [(12, .bool (decide (((jj : Nat) : Int) < ((r.take n).length : Nat)))), (4, .int .u64 z), (9, .slice aq ((r.take n).length) cz), (10, .int .i64 ((r.take n).length : Nat)), (11, .int .i64 (jj : Nat))] (by kernel_rfl) rfl ak0 ?_
  refine GoR.done (GoQ.thn (GoC.seq ?_))
  refine GoC.cond (t := decide (((jj : Nat) : Int) < ((r.take n).length : Nat))) (by kernel_rfl) (fun h7 => ?_) (fun h7 => ?_)
  · have h7' : ((jj : Nat) : Int) < ((r.take n).length : Nat) := of_decide_eq_true h7
    obtain ⟨ab8, ao9, rfl⟩ := RowsAt.isSome (hq _ (hs6.drop 1)) (by omega)
    refine GoC.skip (GoQ.thn (GoC.seq (GoC.block (GoC.seq ?_))))
    refine GoC.regT [7, 7, 7] (.rd 0 (.rd 1 (.rd 2 .done))) (by kernel_rfl) (by kernel_rfl) ?_
    refine GoR.phaseK [(0, .as_ (.pointer (some ⟨ab8, ao9 + (jj * 1), none⟩)) .at_), (1, .gen [.int .u8 ((r.take n).getD jj (0 : Int))]), (2, .gen [])] [6, 4, 9, 10, 11] [(0, [.prop (0 ≤ ((jj : Nat) : Int) ∧ ((jj : Nat) : Int) < (((r.take n).length : Nat) : Int)), .prop (Value.pointer (some (Addr.add ⟨ab8, ao9, none⟩ (Int.toNat (jj : Nat) * 1))) = Value.pointer (some ⟨ab8, ao9 + (jj * 1), none⟩))]), (1, [.cell ⟨ab8, ao9 + (jj * 1), none⟩ (.int .u8 ((r.take n).getD jj (0 : Int)))])] [(6, .int .u8 ((r.take n).getD jj (0 : Int))), (4, .int .u64 z), (9, .slice (some ⟨ab8, ao9, none⟩) ((r.take n).length) cz), (10, .int .i64 ((r.take n).length : Nat)), (11, .int .i64 (jj : Nat))] (by kernel_rfl) rfl (ak (okp (by omega) (okp (ptrAdd _ _ _) ok0)) (ak (okc (RowsAt.at0 (hq _ (hs6.drop 1)) (k := jj) (by first | omega | (simp only [List.length_set]; omega) | (simp only [List.length_set, List.length_append, List.length_cons, List.length_nil]; omega)) (j := 0) (by decide) (by kernel_rfl)) ok0) ak0)) ?_
    refine GoR.done (GoQ.thn ?_)
    refine GoC.regT [63, 63, 63, 63, 63, 63] (.rd 0 (.rd 1 (.rd 2 (.rd 3 (.rd 4 (.rd 5 .done)))))) (by kernel_rfl) (by kernel_rfl) ?_
    refine GoR.phaseK [(0, .gen []), (1, .shift (iShl .u64 z 8)), (2, .gen []), (3, .gen []), (4, .gen []), (5, .gen [])] [4, 9, 10, 11] [(1, [.prop ((0 : Int) ≤ 8 ∧ IntKind.u64.wrap (z * 2 ^ (min (Int.toNat 8) (IntKind.bits .u64))) = iShl .u64 z 8)])] [(4, .int .u64 (iOr .u64 (iShl .u64 z 8) (IntKind.u64.wrap ((r.take n).getD jj (0 : Int))))), (9, .slice (some ⟨ab8, ao9, none⟩) ((r.take n).length) cz), (10, .int .i64 ((r.take n).length : Nat)), (11, .int .i64 (jj : Nat))] (by kernel_rfl) rfl (ak (okp ⟨(by first | omega | exact uwrap_nn rfl _), rfl⟩ ok0) ak0) ?_
    refine GoR.done (GoQ.blkN (GoQ.thn ?_))
    refine GoC.regT [3, 3] (.rd 0 (.rd 1 .done)) (by kernel_rfl) (by kernel_rfl) ?_
    refine GoR.phaseK [(0, .as_ (.int .i64 ((jj : Nat) + 1)) (.gen [])), (1, .gen [])] [11, 4, 9, 10] [(0, [.prop (Value.int .i64 (IntKind.i64.wrap ((jj : Nat) + 1)) = Value.int .i64 ((jj : Nat) + 1))])] [(11, .int .i64 ((jj : Nat) + 1)), (4, .int .u64 (iOr .u64 (iShl .u64 z 8) (IntKind.u64.wrap ((r.take n).getD jj (0 : Int))))), (9, .slice (some ⟨ab8, ao9, none⟩) ((r.take n).length) cz), (10, .int .i64 ((r.take n).length : Nat))] (by kernel_rfl) rfl (ak (okp (i64ok (by omega) (by omega)) ok0) ak0) ?_
    refine GoR.done ?_
    exact GoQ.back (jj + 1, iOr .u64 (iShl .u64 z 8) (IntKind.u64.wrap ((r.take n).getD jj (0 : Int))), some ⟨ab8, ao9, none⟩) [4, 9, 10, 11] (by kernel_rfl) (by show (r.take n).length - (jj + 1) < (r.take n).length - jj; omega) ⟨⟨by omega, by rw [numB_succ (by omega), ← hp.2.1], hq⟩, hs6⟩
  · have h7' : ¬ (((jj : Nat) : Int) < ((r.take n).length : Nat)) := of_decide_eq_false h7
    have hke : jj = (r.take n).length := by omega
    refine GoC.exit (GoQ.skipC (GoQ.skipL (GoQ.hit (GoQ.thn (GoC.seq ?_)))))
    refine GoC.regT [3, 3] (.rd 0 (.rd 1 .done)) (by kernel_rfl) (by kernel_rfl) ?_
    refine GoR.phaseK [(0, .gen []), (1, .gen [])] [4] [] [(4, .int .u64 z)] (by kernel_rfl) rfl ak0 ?_
    refine GoR.done (GoQ.thn (GoC.ret ?_))
    refine GoQ.done (.inl rfl) (v := .int .u64 z) (fun a hf => results1 rfl (by kernel_rfl) a hf) ?_
    exact ⟨(by rw [hp.2.1, hke, List.take_length]), hs6⟩
theorem cutWord_spec {w0 w : World} {L : List Asn} {c : Nat} {az : Option Addr} {cz : Nat} (Q : Asn) (r : List Int) (v : Int) (hQ : ∀ w, St w0 L w → Q.holds w) (hcz : r.length ≤ cz) (hsm : ∃ b off, az = some ⟨b, off, none⟩) (hz : ∀ w, Q.holds w → RowsAt w az r.length 1 (fun k => byteC (r.getD k (0 : Int)))) (hw : r.take 8 = wd v) (hv : 0 ≤ v ∧ v < 18446744073709551616) (hrl : r.length ≤ 1000000) (hs : St w0 ((Cel c #[.slice az r.length cz, .bool false] 126) :: L) w) : Calls Tryz.prog 35 #[.pointer (some ⟨c, 0, none⟩)] w (Ret fun rv w' => ∃ (az2 : Option Addr) (cz2 : Nat), rv = .int .u64 v ∧ ((r.drop 8).length ≤ cz2) ∧ (∃ b off, az2 = some ⟨b, off, none⟩) ∧ (∀ w, Q.holds w → RowsAt w az2 (r.drop 8).length 1 (fun k => byteC ((r.drop 8).getD k (0 : Int)))) ∧ St w0 ((Cel c #[.slice az2 ((r.drop 8).length) cz2, .bool false] 126) :: L) w') := by
  refine enter (args := [.pointer (some ⟨c, 0, none⟩)]) Tryz.func35 rfl Tryz.ntmps35 (Nat.le_of_ble_eq_true (by kernel_rfl)) ?_
  refine GoC.slots (S' := [(0, .pointer (some ⟨c, 0, none⟩))]) rfl ?_
  refine GoC.seq ?_
  refine GoC.regT [1] (.rd 0 .done) (by kernel_rfl) (by kernel_rfl) ?_
  refine GoR.phaseK [(0, .gen [])] [2, 0] [] [(2, .int .u64 0), (0, .pointer (some ⟨c, 0, none⟩))] (by kernel_rfl) rfl ak0 ?_
  refine GoR.done (GoQ.thn (GoC.seq ?_))
  refine GoC.regT [7, 7, 7] (.rd 0 (.rd 1 (.rd 2 .done))) (by kernel_rfl) (by kernel_rfl) ?_
  refine GoR.phaseK [(0, .gen []), (1, .gen []), (2, .gen [])] [3, 2] [] [(3, .func (.func 53) #[.pointer (some ⟨c, 0, none⟩)] #[]), (2, .int .u64 0)] (by kernel_rfl) rfl ak0 ?_
  refine GoR.done (GoQ.thn (GoC.seq ?_))
  refine GoC.regT [7, 7, 7] (.rd 0 (.ef 1 (.rd 2 .done))) (by kernel_rfl) (by kernel_rfl) ?_
  refine GoR.phaseK [(0, .gen [])] [6, 2] [] [(6, .func (.func 53) #[.pointer (some ⟨c, 0, none⟩)] #[]), (2, .int .u64 0)] (by kernel_rfl) rfl ak0 ?_
  refine GoR.call rfl rfl (by kernel_rfl) (f := 54) (args := #[.func (.func 53) #[.pointer (some ⟨c, 0, none⟩)] #[], .int .i64 (8 : Nat)]) (by kernel_rfl) Tryz.call54 (sum_spec Q r 8 (fun w h => hQ w (h.drop 0)) (by first | assumption | omega) (by first | assumption | omega) (by first | assumption | omega) (len8 hw) (by first | assumption | omega) hs) ?_
  rintro v2 w3 ⟨rfl, hs1⟩
  refine ⟨(opn (by kernel_rfl)), ?_⟩
  refine GoR.phaseK [(2, .gen [])] [2] [] [(2, .int .u64 (numB (r.take 8)))] (by kernel_rfl) rfl ak0 ?_
  refine GoR.done (GoQ.thn (GoC.ret ?_))
  refine GoQ.done (.inl rfl) (v := .int .u64 (numB (r.take 8))) (fun a hf => results1 rfl (by kernel_rfl) a hf) ?_
  have h8 := len8 hw
  exact ⟨subAd az cz 8 1, cz - 8, (by rw [hw, numB_wd hv]), (by rw [List.length_drop]; omega), (subAd_some hsm), (fun w h => RowsAt.dropL (hz w h) hcz (by omega)), hs1⟩
theorem cutLeft_spec {w0 w : World} {L : List Asn} {c : Nat} {az : Option Addr} {cz : Nat} (n : Nat) (hs : St w0 ((Cel c #[.slice az n cz, .bool false] 126) :: L) w) : Calls Tryz.prog 38 #[.pointer (some ⟨c, 0, none⟩)] w (Ret fun rv w' => rv = .int .i64 (n : Nat) ∧ St w0 ((Cel c #[.slice az n cz, .bool false] 126) :: L) w') := by
  refine enter (args := [.pointer (some ⟨c, 0, none⟩)]) Tryz.func38 rfl Tryz.ntmps38 (Nat.le_of_ble_eq_true (by kernel_rfl)) ?_
  refine GoC.slots (S' := [(0, .pointer (some ⟨c, 0, none⟩))]) rfl ?_
  refine GoC.seq ?_
  refine GoC.regT [1] (.rd 0 .done) (by kernel_rfl) (by kernel_rfl) ?_
  refine GoR.phaseK [(0, .gen [])] [2, 0] [] [(2, .int .i64 0), (0, .pointer (some ⟨c, 0, none⟩))] (by kernel_rfl) rfl ak0 ?_
  refine GoR.done (GoQ.thn (GoC.seq (GoC.seq ?_)))
  refine GoC.regT [3, 3] (.rd 0 (.rd 1 .done)) (by kernel_rfl) (by kernel_rfl) ?_
  refine GoR.phaseK [(0, .gen []), (1, .gen [])] [4, 2, 0] [] [(4, .bool false), (2, .int .i64 0), (0, .pointer (some ⟨c, 0, none⟩))] (by kernel_rfl) rfl ak0 ?_
  refine GoR.done (GoQ.thn (GoC.condF (by kernel_rfl) (GoC.skip (GoQ.thn (GoC.seq ?_)))))
  refine GoC.regT [63, 63, 63, 63, 63, 63] (.rd 0 (.rd 1 (.rd 2 (.rd 3 (.rd 4 (.rd 5 .done)))))) (by kernel_rfl) (by kernel_rfl) ?_
  refine GoR.phaseK [(0, .gen []), (1, .gen []), (2, .gen []), (3, .gen [.slice az n cz]), (4, .gen []), (5, .gen [])] [2] [(3, [.cell ⟨c, 0, none⟩ (.slice az n cz)])] [(2, .int .i64 (n : Nat))] (by kernel_rfl) rfl (ak (okc (hs.cell 0 rfl (by kernel_rfl)) ok0) ak0) ?_
  refine GoR.done (GoQ.thn (GoC.ret ?_))
  refine GoQ.done (.inl rfl) (v := .int .i64 (n : Nat)) (fun a hf => results1 rfl (by kernel_rfl) a hf) ?_
  exact ⟨rfl, hs⟩
theorem cutOk_spec {w0 w : World} {L : List Asn} {c : Nat} {az : Option Addr} {cz : Nat} (n : Nat) (hs : St w0 ((Cel c #[.slice az n cz, .bool false] 126) :: L) w) : Calls Tryz.prog 37 #[.pointer (some ⟨c, 0, none⟩)] w (Ret fun rv w' => rv = .bool true ∧ St w0 ((Cel c #[.slice az n cz, .bool false] 126) :: L) w') := by
  refine enter (args := [.pointer (some ⟨c, 0, none⟩)]) Tryz.func37 rfl Tryz.ntmps37 (Nat.le_of_ble_eq_true (by kernel_rfl)) ?_
  refine GoC.slots (S' := [(0, .pointer (some ⟨c, 0, none⟩))]) rfl ?_
  refine GoC.seq ?_
  refine GoC.regT [1] (.rd 0 .done) (by kernel_rfl) (by kernel_rfl) ?_
  refine GoR.phaseK [(0, .gen [])] [2, 0] [] [(2, .bool false), (0, .pointer (some ⟨c, 0, none⟩))] (by kernel_rfl) rfl ak0 ?_
  refine GoR.done (GoQ.thn (GoC.seq ?_))
  refine GoC.regT [1023, 1023, 1023, 1023, 1023, 1023, 1023, 1023, 1023, 1023] (.rd 0 (.rd 1 (.rd 2 (.rd 3 (.rd 4 (.rd 5 (.rd 6 (.rd 7 (.rd 8 (.rd 9 .done)))))))))) (by kernel_rfl) (by kernel_rfl) ?_
  refine GoR.phaseK [(0, .gen []), (1, .gen []), (2, .gen []), (3, .gen []), (4, .gen []), (5, .gen []), (6, .gen [.bool false]), (7, .gen []), (8, .gen []), (9, .gen [])] [2] [(6, [.cell ⟨c, 1, none⟩ (.bool false)])] [(2, .bool true)] (by kernel_rfl) rfl (ak (okc (hs.cell 0 rfl (by kernel_rfl)) ok0) ak0) ?_
  refine GoR.done (GoQ.thn (GoC.ret ?_))
  refine GoQ.done (.inl rfl) (v := .bool true) (fun a hf => results1 rfl (by kernel_rfl) a hf) ?_
  exact ⟨rfl, hs⟩
theorem cutRaw_spec {w0 w : World} {L : List Asn} {c : Nat} {az : Option Addr} {cz : Nat} (Q : Asn) (r : List Int) (n : Nat) (hQ : ∀ w, St w0 L w → Q.holds w) (hcz : r.length ≤ cz) (hsm : ∃ b off, az = some ⟨b, off, none⟩) (hz : ∀ w, Q.holds w → RowsAt w az r.length 1 (fun k => byteC (r.getD k (0 : Int)))) (hn : n ≤ r.length) (hrl : r.length ≤ 1000000) (hs : St w0 ((Cel c #[.slice az r.length cz, .bool false] 126) :: L) w) : Calls Tryz.prog 55 #[.pointer (some ⟨c, 0, none⟩), .int .i64 (n : Nat)] w (Ret fun rv w' => ∃ (ao : Option Addr) (co : Nat) (az2 : Option Addr) (cz2 : Nat), rv = .slice ao ((r.take n).length) co ∧ ((r.drop n).length ≤ cz2) ∧ (∃ b off, az2 = some ⟨b, off, none⟩) ∧ (∀ w, Q.holds w → RowsAt w az2 (r.drop n).length 1 (fun k => byteC ((r.drop n).getD k (0 : Int)))) ∧ St w0 ((Sl ao co 5 1 byteC (r.take n)) :: (Cel c #[.slice az2 ((r.drop n).length) cz2, .bool false] 126) :: L) w') := by
  refine enter (args := [.pointer (some ⟨c, 0, none⟩), .int .i64 (n : Nat)]) Tryz.func55 rfl Tryz.ntmps55 (Nat.le_of_ble_eq_true (by kernel_rfl)) ?_
  refine GoC.slots (S' := [(0, .pointer (some ⟨c, 0, none⟩)), (1, .int .i64 (n : Nat))]) rfl ?_
  refine GoC.seq ?_
  refine GoC.regT [1] (.rd 0 .done) (by kernel_rfl) (by kernel_rfl) ?_
  refine GoR.phaseK [(0, .gen [])] [4, 0, 1] [] [(4, .slice none 0 0), (0, .pointer (some ⟨c, 0, none⟩)), (1, .int .i64 (n : Nat))] (by kernel_rfl) rfl ak0 ?_
  refine GoR.done (GoQ.thn (GoC.seq ?_))
  refine GoC.regT [31, 31, 31, 31, 31] (.rd 0 (.rd 1 (.ef 2 (.ef 3 (.rd 4 .done))))) (by kernel_rfl) (by kernel_rfl) ?_
  refine GoR.phaseK [(0, .gen []), (1, .gen [])] [6, 5, 4] [] [(6, .int .i64 (n : Nat)), (5, .pointer (some ⟨c, 0, none⟩)), (4, .slice none 0 0)] (by kernel_rfl) rfl ak0 ?_
  refine GoR.call rfl rfl (by kernel_rfl) (f := 53) (args := #[.pointer (some ⟨c, 0, none⟩), .int .i64 (n : Nat)]) (by kernel_rfl) Tryz.call53 (take_spec Q r n (fun w h => hQ w (h.drop 0)) (by first | assumption | omega) hsm (by first | assumption | omega) (by first | assumption | omega) (by first | assumption | omega) hs) ?_
  rintro v2 w3 ⟨rfl, hs1⟩
  refine ⟨(opn (by kernel_rfl)), ?_⟩
  refine GoR.call rfl rfl (by kernel_rfl) (f := 52) (args := #[.slice az ((r.take n).length) cz]) (by kernel_rfl) Tryz.call52 (cloneV_spec (r.take n) (by rw [List.length_take]; omega) hsm (fun w h => RowsAt.takeL (hz w (hQ w (h.drop 1))) _ (by omega)) hs1) ?_
  rintro v7 w8 ⟨ao4, co5, rfl, hs6⟩
  refine ⟨(opn (by kernel_rfl)), ?_⟩
  refine GoR.phaseK [(4, .gen [])] [4] [] [(4, .slice ao4 ((r.take n).length) co5)] (by kernel_rfl) rfl ak0 ?_
  refine GoR.done (GoQ.thn (GoC.ret ?_))
  refine GoQ.done (.inl rfl) (v := .slice ao4 ((r.take n).length) co5) (fun a hf => results1 rfl (by kernel_rfl) a hf) ?_
  exact ⟨ao4, co5, subAd az cz n 1, cz - n, rfl, (by rw [List.length_drop]; omega), (subAd_some hsm), (fun w h => RowsAt.dropL (hz w h) hcz (by omega)), hs6⟩
end Go.Proofs.YtkiaagddmlddpaaGreatDoor
