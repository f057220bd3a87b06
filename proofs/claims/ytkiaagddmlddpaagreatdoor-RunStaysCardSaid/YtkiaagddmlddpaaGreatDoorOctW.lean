/-
  octet.Word. Conditions: none beside each theorem's own.
-/
import Derived.Test.YtkiaagddmlddpaaGreatDoorOctB
namespace Go.Proofs.YtkiaagddmlddpaaGreatDoor
open Go.RowKit Go.Sx
set_option linter.unusedVariables false
set_option linter.unusedSimpArgs false
set_option linter.unnecessarySimpa false
set_option maxRecDepth 100000
def wdb (n : Int) (x : Nat) : Int := (fun z : Int => IntKind.u8.wrap (iShr .u64 n (8 * z))) (7 - (x : Nat))
def wdn (n : Int) (x : Nat) : List Int := (List.range x).map (wdb n)
theorem wdn_succ (n : Int) (x : Nat) : wdn n (x + 1) = wdn n x ++ [wdb n x] := by simp [wdn, List.range_succ]
theorem wdn_length (n : Int) (x : Nat) : (wdn n x).length = x := by simp [wdn]
/-- The bytes of a word. -/
def wd (n : Int) : List Int := wdn n 8
theorem wd_length (n : Int) : (wd n).length = 8 := wdn_length n 8
theorem putW_spec {w0 w : World} {L : List Asn} {ad : Option Addr} {c : Nat} (l : List Int) (n : Int) (hl : l.length ≤ 900000) (hn : 0 ≤ n ∧ n ≤ 18446744073709551615) (hs : St w0 ((Sl ad c 5 1 byteC l) :: L) w) : Calls Tryz.prog 42 #[.slice ad l.length c, .int .u64 n, .int .i64 8] w (Ret fun rv w' => ∃ (ao : Option Addr) (co : Nat), rv = .slice ao ((l ++ wd n).length) co ∧ St w0 ((Sl ao co 5 1 byteC (l ++ wd n)) :: L) w') := by
  refine enter (args := [.slice ad l.length c, .int .u64 n, .int .i64 8]) Tryz.func42 rfl Tryz.ntmps42 (Nat.le_of_ble_eq_true (by kernel_rfl)) ?_
  refine GoC.slots (S' := [(0, .slice ad l.length c), (1, .int .u64 n), (2, .int .i64 8)]) rfl ?_
  refine GoC.seq ?_
  refine GoC.regT [1] (.rd 0 .done) (by kernel_rfl) (by kernel_rfl) ?_
  refine GoR.phaseK [(0, .gen [])] [6, 0, 1, 2] [] [(6, .slice none 0 0), (0, .slice ad l.length c), (1, .int .u64 n), (2, .int .i64 8)] (by kernel_rfl) rfl ak0 ?_
  refine GoR.done (GoQ.thn (GoC.seq ?_))
  refine GoC.regT [31, 31, 31, 31, 31] (.rd 0 (.ef 1 (.rd 2 (.ef 3 (.rd 4 .done))))) (by kernel_rfl) (by kernel_rfl) ?_
  refine GoR.phaseK [(0, .gen [])] [9, 6, 1, 2] [] [(9, .slice ad l.length c), (6, .slice none 0 0), (1, .int .u64 n), (2, .int .i64 8)] (by kernel_rfl) rfl ak0 ?_
  refine GoR.call rfl rfl (by kernel_rfl) (f := 52) (args := #[.slice ad l.length c]) (by kernel_rfl) Tryz.call52 (clone_spec2 l (by first | omega | (simp only [List.length_append, List.length_cons, List.length_nil, wd_length] at *; omega)) hs) ?_
  rintro v4 w5 ⟨ao1, co2, rfl, hs3⟩
  refine ⟨(opn (by kernel_rfl)), ?_⟩
  refine GoR.phaseK [(2, .gen [])] [11, 10, 6, 1, 2] [] [(11, .int .i64 8), (10, .slice ao1 l.length co2), (6, .slice none 0 0), (1, .int .u64 n), (2, .int .i64 8)] (by kernel_rfl) rfl ak0 ?_
  refine GoR.call rfl rfl (by kernel_rfl) (f := 60) (args := #[.slice ao1 l.length co2, .int .i64 8]) (by kernel_rfl) Tryz.call60 (grow_spec2 l 8 (by first | omega | (simp only [List.length_append, List.length_cons, List.length_nil, wd_length] at *; omega)) (by omega) hs3) ?_
  rintro v9 w10 ⟨ao6, co7, rfl, hs8⟩
  refine ⟨(opn (by kernel_rfl)), ?_⟩
  refine GoR.phaseK [(4, .gen [])] [7, 6, 1, 2] [] [(7, .slice ao6 l.length co7), (6, .slice none 0 0), (1, .int .u64 n), (2, .int .i64 8)] (by kernel_rfl) rfl ak0 ?_
  refine GoR.done (GoQ.thn (GoC.seq (GoC.seq ?_)))
  refine GoC.regT [7, 7, 7] (.rd 0 (.rd 1 (.rd 2 .done))) (by kernel_rfl) (by kernel_rfl) ?_
  refine GoR.phaseK [(0, .gen []), (1, .gen []), (2, .gen [])] [8, 7, 6, 1] [] [(8, .int .i64 7), (7, .slice ao6 l.length co7), (6, .slice none 0 0), (1, .int .u64 n)] (by kernel_rfl) rfl ak0 ?_
  refine GoR.done (GoQ.thn (GoC.block ?_))
  refine GoC.loop (T := Nat × Int × (List Int) × (Option Addr) × Nat) (fun gg => [(1, .int .u64 n), (6, .slice none 0 0), (7, .slice gg.2.2.2.1 gg.2.2.1.length gg.2.2.2.2), (8, .int .i64 gg.2.1)]) (fun gg w => (gg.1 ≤ 8 ∧ gg.2.1 = 7 - (gg.1 : Nat) ∧ gg.2.2.1 = l ++ wdn n gg.1) ∧ St w0 ((Sl gg.2.2.2.1 gg.2.2.2.2 5 1 byteC gg.2.2.1) :: L) w) (fun gg => 8 - gg.1) (0, 7, l, ao6, co7) [1, 6, 7, 8] (by kernel_rfl) ⟨⟨by first | omega | (simp only; omega), by first | omega | (simp only; omega), by simp [wdn]⟩, hs8⟩ ?_
  rintro ⟨x, z, q, ad, c⟩ w11 ⟨hp0, hs12⟩
  have hp : x ≤ 8 ∧ z = 7 - (x : Nat) ∧ q = l ++ wdn n x := hp0
  have hs13 : St w0 ((Sl ad c 5 1 byteC q) :: L) w11 := hs12
  refine GoC.slots (S' := [(1, .int .u64 n), (6, .slice none 0 0), (7, .slice ad q.length c), (8, .int .i64 z)]) rfl ?_
  refine GoC.seq (GoC.seq ?_)
  refine GoC.regT [3, 3] (.rd 0 (.rd 1 .done)) (by kernel_rfl) (by kernel_rfl) ?_
  refine GoR.phaseK [(0, .gen []), (1, .gen [])] [16, 1, 6, 7, 8] [] [(16, .bool (decide ((z : Int) ≥ 0))), (1, .int .u64 n), (6, .slice none 0 0), (7, .slice ad q.length c), (8, .int .i64 z)] (by kernel_rfl) rfl ak0 ?_
  refine GoR.done (GoQ.thn ?_)
  refine GoC.cond (t := decide ((z : Int) ≥ 0)) (by kernel_rfl) (fun h14 => ?_) (fun h14 => ?_)
  · have h14' : (z : Int) ≥ 0 := of_decide_eq_true h14
    refine GoC.skip (GoQ.thn (GoC.seq (GoC.block ?_)))
    refine GoC.regT [511, 511, 511, 511, 511, 511, 511, 511, 511] (.rd 0 (.rd 1 (.rd 2 (.rd 3 (.rd 4 (.rd 5 (.ef 6 (.ef 7 (.rd 8 .done))))))))) (by kernel_rfl) (by kernel_rfl) ?_
    refine GoR.phaseK [(0, .gen []), (1, .gen []), (2, .gen []), (3, .as_ (.int .i64 (8 * z)) (.gen [])), (4, .shift (iShr .u64 n (8 * z))), (5, .gen [])] [24, 19, 1, 6, 7, 8] [(3, [.prop (Value.int .i64 (IntKind.i64.wrap (8 * z)) = Value.int .i64 (8 * z))]), (4, [.prop ((0 : Int) ≤ 8 * z ∧ Int.fdiv n (2 ^ (min (Int.toNat (8 * z)) (IntKind.bits .u64))) = iShr .u64 n (8 * z))])] [(24, .int .u8 (IntKind.u8.wrap (iShr .u64 n (8 * z)))), (19, .slice ad q.length c), (1, .int .u64 n), (6, .slice none 0 0), (7, .slice ad q.length c), (8, .int .i64 z)] (by kernel_rfl) rfl (ak (okp (i64ok (by omega) (by omega)) ok0) (ak (okp ⟨(by first | omega | exact uwrap_nn rfl _), rfl⟩ ok0) ak0)) ?_
    refine GoR.sliceLit rfl (by kernel_rfl) (t := 23) (e := 5) (n := 1) (ps := [(0, .int .u8 (IntKind.u8.wrap (iShr .u64 n (8 * z))))]) (by kernel_rfl) (by kernel_rfl) (ti := Tryz.t5) (z := .int .u8 0) (by kernel_rfl) (by kernel_rfl) (by decide) (by decide) (cs := #[.int .u8 (IntKind.u8.wrap (iShr .u64 n (8 * z)))]) (by kernel_rfl) hs13 ?_
    intro b15 w16 hs17 hz18
    have hs19 : St w0 ((Sl (some ⟨b15, 0, none⟩) 1 5 1 byteC ([(IntKind.u8.wrap (iShr .u64 n (8 * z)) : Int)])) :: (Sl ad c 5 1 byteC q) :: L) w16 := St.slOf (l := [(IntKind.u8.wrap (iShr .u64 n (8 * z)) : Int)]) (f := byteC) hs17 hz18 (byteF).size (by simp only [List.length_cons, List.length_nil, maxLen]; omega) (by kernel_rfl)
    refine ⟨(opn (by kernel_rfl)), ?_⟩
    have hs22 : St w0 ((Sl ad c 5 1 byteC q) :: (Sl (some ⟨b15, 0, none⟩) 1 5 1 byteC ([(IntKind.u8.wrap (iShr .u64 n (8 * z)) : Int)])) :: L) w16 := (hs19.pull 1 rfl)
    refine GoR.append rfl (by kernel_rfl) bytesOK byteF (ad := ad) (c := c) (xs := q) (ys := [(IntKind.u8.wrap (iShr .u64 n (8 * z)) : Int)]) (adx := some ⟨b15, 0, none⟩) (cx := 1) (0 : Int) (by kernel_rfl) hs22 (hs22.rows 1 rfl (byteF).size (0 : Int)) (fun h => nomatch h) (by rw [hp.2.2, List.length_append, wdn_length]; simp only [List.length_cons, List.length_nil]; omega) (by rw [hp.2.2, List.length_append, wdn_length]; simp only [List.length_cons, List.length_nil]; omega) ?_
    intro ad23 c24 w20 hs21
    refine ⟨(opn (by kernel_rfl)), ?_⟩
    refine GoR.phaseK [(8, .gen [])] [7, 1, 6, 8] [] [(7, .slice ad23 ((q ++ ([(IntKind.u8.wrap (iShr .u64 n (8 * z)) : Int)])).length) c24), (1, .int .u64 n), (6, .slice none 0 0), (8, .int .i64 z)] (by kernel_rfl) rfl ak0 ?_
    refine GoR.done (GoQ.blkN (GoQ.thn ?_))
    refine GoC.regT [7, 7, 7] (.rd 0 (.rd 1 (.rd 2 .done))) (by kernel_rfl) (by kernel_rfl) ?_
    refine GoR.phaseK [(0, .gen []), (1, .as_ (.int .i64 (z - 1)) (.gen [])), (2, .gen [])] [8, 7, 1, 6] [(1, [.prop (Value.int .i64 (IntKind.i64.wrap (z - 1)) = Value.int .i64 (z - 1))])] [(8, .int .i64 (z - 1)), (7, .slice ad23 ((q ++ ([(IntKind.u8.wrap (iShr .u64 n (8 * z)) : Int)])).length) c24), (1, .int .u64 n), (6, .slice none 0 0)] (by kernel_rfl) rfl (ak (okp (i64ok (by omega) (by omega)) ok0) ak0) ?_
    refine GoR.done ?_
    have hs25 : St w0 ((Sl (some ⟨b15, 0, none⟩) 1 5 1 byteC ([(IntKind.u8.wrap (iShr .u64 n (8 * z)) : Int)])) :: (Sl ad23 c24 5 1 byteC (q ++ ([(IntKind.u8.wrap (iShr .u64 n (8 * z)) : Int)]))) :: L) w20 := ((hs21.pull 0 rfl).pull 1 rfl)
    have hs26 : St w0 ((Sl ad23 c24 5 1 byteC (q ++ ([(IntKind.u8.wrap (iShr .u64 n (8 * z)) : Int)]))) :: L) w20 := hs25.drop 1
    exact GoQ.back (x + 1, z - 1, q ++ ([(IntKind.u8.wrap (iShr .u64 n (8 * z)) : Int)]), ad23, c24) [1, 6, 7, 8] (by kernel_rfl) (by show 8 - (x + 1) < 8 - x; omega) ⟨(by refine ⟨by first | omega | (simp only; omega), by first | omega | (simp only; omega), ?_⟩; rw [hp.2.2, List.append_assoc, hp.2.1]; exact congrArg (l ++ ·) (wdn_succ n x).symm), hs26⟩
  · have h14' : ¬ ((z : Int) ≥ 0) := of_decide_eq_false h14
    refine GoC.exit (GoQ.skipC (GoQ.skipL (GoQ.hit (GoQ.thn (GoC.seq ?_)))))
    refine GoC.regT [3, 3] (.rd 0 (.rd 1 .done)) (by kernel_rfl) (by kernel_rfl) ?_
    refine GoR.phaseK [(0, .gen []), (1, .gen [])] [6] [] [(6, .slice ad q.length c)] (by kernel_rfl) rfl ak0 ?_
    refine GoR.done (GoQ.thn (GoC.ret ?_))
    refine GoQ.done (.inl rfl) (v := .slice ad q.length c) (fun a hf => results1 rfl (by kernel_rfl) a hf) ?_
    have hx : x = 8 := by omega
    have hq : q = l ++ wd n := by rw [hp.2.2, hx]; rfl
    subst hq
    exact ⟨ad, c, rfl, hs13⟩
theorem word_spec {w0 w : World} {L : List Asn} {ad : Option Addr} {c : Nat} (l : List Int) (n : Int) (hl : l.length ≤ 900000) (hn : 0 ≤ n ∧ n ≤ 18446744073709551615) (hs : St w0 ((Sl ad c 5 1 byteC l) :: L) w) : Calls Tryz.prog 25 #[.slice ad l.length c, .int .u64 n] w (Ret fun rv w' => ∃ (ao : Option Addr) (co : Nat), rv = .slice ao ((l ++ wd n).length) co ∧ St w0 ((Sl ao co 5 1 byteC (l ++ wd n)) :: L) w') := by
  refine enter (args := [.slice ad l.length c, .int .u64 n]) Tryz.func25 rfl Tryz.ntmps25 (Nat.le_of_ble_eq_true (by kernel_rfl)) ?_
  refine GoC.slots (S' := [(0, .slice ad l.length c), (1, .int .u64 n)]) rfl ?_
  refine GoC.seq ?_
  refine GoC.regT [1] (.rd 0 .done) (by kernel_rfl) (by kernel_rfl) ?_
  refine GoR.phaseK [(0, .gen [])] [4, 0, 1] [] [(4, .slice none 0 0), (0, .slice ad l.length c), (1, .int .u64 n)] (by kernel_rfl) rfl ak0 ?_
  refine GoR.done (GoQ.thn (GoC.seq ?_))
  refine GoC.regT [15, 15, 15, 15] (.rd 0 (.rd 1 (.ef 2 (.rd 3 .done)))) (by kernel_rfl) (by kernel_rfl) ?_
  refine GoR.phaseK [(0, .gen []), (1, .gen [])] [6, 5, 4] [] [(6, .int .u64 n), (5, .slice ad l.length c), (4, .slice none 0 0)] (by kernel_rfl) rfl ak0 ?_
  refine GoR.call rfl rfl (by kernel_rfl) (f := 42) (args := #[.slice ad l.length c, .int .u64 n, .int .i64 8]) (by kernel_rfl) Tryz.call42 (putW_spec l n (by first | omega | (simp only [List.length_append, List.length_cons, List.length_nil, wd_length] at *; omega)) (by omega) hs) ?_
  rintro v4 w5 ⟨ao1, co2, rfl, hs3⟩
  refine ⟨(opn (by kernel_rfl)), ?_⟩
  refine GoR.phaseK [(3, .gen [])] [4] [] [(4, .slice ao1 ((l ++ wd n).length) co2)] (by kernel_rfl) rfl ak0 ?_
  refine GoR.done (GoQ.thn (GoC.ret ?_))
  refine GoQ.done (.inl rfl) (v := .slice ao1 ((l ++ wd n).length) co2) (fun a hf => results1 rfl (by kernel_rfl) a hf) ?_
  exact ⟨ao1, co2, rfl, hs3⟩
end Go.Proofs.YtkiaagddmlddpaaGreatDoor
