/-
  Several texts in one.
  The document's Steps, kind by kind. Conditions: none beside each theorem's own.
  DrillSteps is true, whatever event comes: the walks. Conditions: what ratchet/sha.table holds.
  An event out of what fits its cells. Conditions: none.
-/
import Derived.Test.YtahmejhidelkbaaGreatDoorDsP
import Derived.Test.YtahmejhidelkbaaGreatDoorDrW
import Derived.Test.YtahmejhidelkbaaGreatDoorProg
import Derived.Test.YtahmejhidelkbaaGreatDoorSxT
/-! DsF -/
namespace Go.Proofs.YtahmejhidelkbaaGreatDoor
open Go.RowKit Go.Sx
set_option linter.unusedVariables false
set_option linter.unusedSimpArgs false
set_option linter.unnecessarySimpa false
set_option maxRecDepth 100000
theorem refS_spec {w0 w : World} {L : List Asn} (m : Nat) (un : Int) (kd : Int) (A : Int) (N : Int) (sx : SV) (hm : 3 ≤ m ∧ m ≤ 11 ∧ m % 2 = 1) (hA : 0 ≤ A ∧ A ≤ 65535) (hw : 0 ≤ A % (m : Int) ∧ A % (m : Int) < 11) (hS : ∀ {w0 w : World} {L : List Asn}, St w0 L w → Calls Tryz.prog 18 #[.agg #[.int .u8 kd, .int .u16 A, .int .i64 N], .int .i64 (A % (m : Nat) + 1)] w (Ret fun rv w' => rv = .tuple #[.agg (SV.cells sx), .bool true] ∧ St w0 L w')) (hs : St w0 (L) w) : Calls Tryz.prog 7 #[.int .i64 (m : Nat), .agg #[.int .u8 kd, .int .u16 A, .int .i64 N], .int .i64 un] w (Ret fun rv w' => ∃ (ao : Option Addr) (co : Nat), rv = .slice ao (([sx]).length) co ∧ St w0 ((Rd ao 107 SV.cells dSV ([sx])) :: L) w') := by
  refine enter (args := [.int .i64 (m : Nat), .agg #[.int .u8 kd, .int .u16 A, .int .i64 N], .int .i64 un]) Tryz.func7 rfl Tryz.ntmps7 (Nat.le_of_ble_eq_true (by kernel_rfl)) ?_
  refine GoC.slots (S' := [(0, .int .i64 (m : Nat)), (1, .agg #[.int .u8 kd, .int .u16 A, .int .i64 N]), (2, .int .i64 un)]) rfl ?_
  refine GoC.seq ?_
  refine Zqt (.ef 0 (.rd 1 .done)) ?_
  refine GoR.box rfl rfl (by kernel_rfl) (v := .agg #[.int .u8 kd, .int .u16 A, .int .i64 N]) (by kernel_rfl) hs (cs := #[.int .u8 kd, .int .u16 A, .int .i64 N]) (by kernel_rfl) ?_
  intro b1 w2 hs3
  refine ⟨Zqo, ?_⟩
  refine Zqk [(1, .gen [])] [] [(6, .slice none 0 0), (4, vp b1 0), (0, .int .i64 (m : Nat)), (2, .int .i64 un)] ak0 ?_
  refine GoR.done (GoQ.thn (GoC.seq (GoC.seq ?_)))
  refine GoC.join (T := Unit) (E := fun _ => [(22, .bool (((decide (((m : Nat) : Int) < 3)) || (decide (((m : Nat) : Int) > 11))) || ((((m : Nat) % 2) : Int) == 0))), (6, .slice none 0 0), (4, vp b1 0), (0, .int .i64 (m : Nat)), (2, .int .i64 un)]) (F := fun _ w => St w0 ((Cel b1 #[.int .u8 kd, .int .u16 A, .int .i64 N] 29) :: L) w) ?_ ?_
  · refine Zqt (.rd 0 (.rd 1 (.rd 2 (.rd 3 (.rd 4 (.rd 5 (.rd 6 (.rd 7 (.rd 8 (.rd 9 (.rd 10 .done))))))))))) ?_
    refine Zqk [(0, .gen []), (1, .gen []), (2, .gen [])] [] [(14, .bool (decide (((m : Nat) : Int) < 3))), (6, .slice none 0 0), (4, vp b1 0), (0, .int .i64 (m : Nat)), (2, .int .i64 un)] ak0 ?_
    rcases Bool.eq_false_or_eq_true (decide (((m : Nat) : Int) < 3)) with h4 | h4
    · refine Zqs 14 true h4 ?_
      have h4' : ((m : Nat) : Int) < 3 := of_decide_eq_true h4
      refine Zqk [(3, .gen []), (4, .gen []), (5, .gen []), (6, .gen []), (7, .gen []), (8, .gen []), (9, .gen []), (10, .gen [])] [] [(22, .bool true), (6, .slice none 0 0), (4, vp b1 0), (0, .int .i64 (m : Nat)), (2, .int .i64 un)] ak0 ?_
      refine GoR.done ?_
      refine GoQ.pick [22, 6, 4, 0, 2] (S' := [(22, .bool true), (6, .slice none 0 0), (4, vp b1 0), (0, .int .i64 (m : Nat)), (2, .int .i64 un)]) (by kernel_rfl) ?_
      exact GoQ.meet1 () (by first | rfl | (simp only [h4, Bool.not_true, Bool.not_false, Bool.true_or, Bool.false_or, Bool.true_and, Bool.false_and, Bool.or_true, Bool.or_false, Bool.and_true, Bool.and_false]; done) | (simp [h4]; done)) hs3
    · refine Zqs 14 false h4 ?_
      have h4' : ¬ (((m : Nat) : Int) < 3) := of_decide_eq_false h4
      refine Zqk [(3, .gen []), (4, .gen []), (5, .gen []), (6, .gen [])] [] [(18, .bool (decide (((m : Nat) : Int) > 11))), (6, .slice none 0 0), (4, vp b1 0), (0, .int .i64 (m : Nat)), (2, .int .i64 un)] ak0 ?_
      rcases Bool.eq_false_or_eq_true (decide (((m : Nat) : Int) > 11)) with h5 | h5
      · refine Zqs 18 true h5 ?_
        have h5' : ((m : Nat) : Int) > 11 := of_decide_eq_true h5
        refine Zqk [(7, .gen []), (8, .gen []), (9, .gen []), (10, .gen [])] [] [(22, .bool true), (6, .slice none 0 0), (4, vp b1 0), (0, .int .i64 (m : Nat)), (2, .int .i64 un)] ak0 ?_
        refine GoR.done ?_
        refine GoQ.pick [22, 6, 4, 0, 2] (S' := [(22, .bool true), (6, .slice none 0 0), (4, vp b1 0), (0, .int .i64 (m : Nat)), (2, .int .i64 un)]) (by kernel_rfl) ?_
        exact GoQ.meet1 () (by first | rfl | (simp only [h4, h5, Bool.not_true, Bool.not_false, Bool.true_or, Bool.false_or, Bool.true_and, Bool.false_and, Bool.or_true, Bool.or_false, Bool.and_true, Bool.and_false]; done) | (simp [h4, h5]; done)) hs3
      · refine Zqs 18 false h5 ?_
        have h5' : ¬ (((m : Nat) : Int) > 11) := of_decide_eq_false h5
        refine Zqk [(7, .gen []), (8, .div ((m : Nat) % 2)), (9, .gen []), (10, .gen [])] [(8, [.prop (IntKind.i64 = IntKind.i64 ∧ (2 : Int) ≠ 0 ∧ Int.tmod (m : Nat) 2 = (m : Nat) % 2)])] [(22, .bool ((((m : Nat) % 2) : Int) == 0)), (6, .slice none 0 0), (4, vp b1 0), (0, .int .i64 (m : Nat)), (2, .int .i64 un)] (ak (okp ⟨rfl, by decide, Int.tmod_eq_emod_of_nonneg (by first | omega | exact Int.natCast_nonneg _)⟩ ok0) ak0) ?_
        refine GoR.done ?_
        refine GoQ.pick [22, 6, 4, 0, 2] (S' := [(22, .bool ((((m : Nat) % 2) : Int) == 0)), (6, .slice none 0 0), (4, vp b1 0), (0, .int .i64 (m : Nat)), (2, .int .i64 un)]) (by kernel_rfl) ?_
        exact GoQ.meet1 () (by first | rfl | (simp only [h4, h5, Bool.not_true, Bool.not_false, Bool.true_or, Bool.false_or, Bool.true_and, Bool.false_and, Bool.or_true, Bool.or_false, Bool.and_true, Bool.and_false]; done) | (simp [h4, h5]; done)) hs3
  intro _ w6 hs7
  refine GoQ.thn ?_
  refine Zqc (t := ((decide (((m : Nat) : Int) < 3)) || (decide (((m : Nat) : Int) > 11))) || ((((m : Nat) % 2) : Int) == 0)) (fun h8 => ?_) (fun h8 => ?_)
  · exfalso
    have hx := h8
    simp only [Bool.or_eq_true, decide_eq_true_eq, beq_iff_eq] at hx
    omega
  · have h8a : ((decide (((m : Nat) : Int) < 3)) || (decide (((m : Nat) : Int) > 11))) = false := (Bool.or_eq_false_iff.1 h8).1
    have h8aa : (decide (((m : Nat) : Int) < 3)) = false := (Bool.or_eq_false_iff.1 h8a).1
    have h8aa' : ¬ (((m : Nat) : Int) < 3) := of_decide_eq_false h8aa
    have h8ab : (decide (((m : Nat) : Int) > 11)) = false := (Bool.or_eq_false_iff.1 h8a).2
    have h8ab' : ¬ (((m : Nat) : Int) > 11) := of_decide_eq_false h8ab
    have h8b : ((((m : Nat) % 2) : Int) == 0) = false := (Bool.or_eq_false_iff.1 h8).2
    have h8b' : ¬ (((m : Nat) % 2 : Int) = 0) := ieqF h8b
    refine GoC.skip (GoQ.thn (GoC.seq ?_))
    refine GoC.join (T := Nat) (E := fun jx => [(0, .int .i64 (m : Nat)), (2, .int .i64 un), (4, vp b1 0), (6, .slice none 0 0), (7, vp jx 0), (8, .bool true)]) (F := fun jx w => St w0 ((Cel jx (SV.cells sx) 50) :: (Cel b1 #[.int .u8 kd, .int .u16 A, .int .i64 N] 29) :: L) w) ?_ ?_
    · refine GoC.regD [0, 0, 2, 6, 0, 30, 62, 127, 255, 511, 511, 0, 3071, 8191] (.rd 0 (.rd 1 (.rd 2 (.rd 3 (.rd 4 (.rd 5 (.rd 6 (.alt (.ef 7 (.rd 8 (.rd 9 (.rd 10 (.ef 11 (.ef 12 (.rd 13 .done))))))) (.ef 11 (.ef 7 (.rd 8 (.rd 9 (.rd 10 (.ef 12 (.rd 13 .done))))))))))))))) (by kernel_rfl) (by kernel_rfl) noPan_body (by kernel_rfl) hs7 ?_
      intro w9 hs10 hw11
      refine Zqk [(0, .agg #[.int .u8 kd, .int .u16 A, .int .i64 N]), (1, .gen []), (2, .gen [.int .u16 A]), (3, .as_ (.int .i64 A) (.gen [])), (4, .gen []), (5, .div (A % (m : Nat))), (6, .as_ (.int .i64 ((A % (m : Nat)) + 1)) (.gen []))] [(0, [.prop (Array.size (#[.int .u8 kd, .int .u16 A, .int .i64 N] : Array Value) = 3), .cells ⟨b1, 0, none⟩ #[.int .u8 kd, .int .u16 A, .int .i64 N]]), (2, [.cell ⟨b1, 1, none⟩ (.int .u16 A)]), (3, [.prop (Value.int .i64 (IntKind.i64.wrap A) = Value.int .i64 A)]), (5, [.prop (IntKind.i64 = IntKind.i64 ∧ ((m : Nat) : Int) ≠ 0 ∧ Int.tmod A (m : Nat) = A % (m : Nat))]), (6, [.prop (Value.int .i64 (IntKind.i64.wrap ((A % (m : Nat)) + 1)) = Value.int .i64 ((A % (m : Nat)) + 1))])] [(30, .int .i64 ((A % (m : Nat)) + 1)), (24, .agg #[.int .u8 kd, .int .u16 A, .int .i64 N]), (6, .slice none 0 0), (4, vp b1 0), (0, .int .i64 (m : Nat)), (2, .int .i64 un)] (ak (okp (by kernel_rfl) (oka (hs10.cells 0 0 rfl (by kernel_rfl)) ok0)) (ak (okc (hs10.cell 0 rfl (by kernel_rfl)) ok0) (ak (okp (i64ok (by omega) (by omega)) ok0) (ak (okp ⟨rfl, by omega, Int.tmod_eq_emod_of_nonneg (by omega)⟩ ok0) (ak (okp (i64ok (by omega) (by omega)) ok0) ak0))))) ?_
      refine GoR.alt ?_ ?_
      · refine Zqa (f := 18) (args := #[.agg #[.int .u8 kd, .int .u16 A, .int .i64 N], .int .i64 ((A % (m : Nat)) + 1)]) Tryz.call18 (hS hs10) ?_
        rintro v13 w14 ⟨rfl, hs12⟩
        refine ⟨Zqo, ?_⟩
        refine Zqk [(8, .gen []), (9, .gen []), (10, .gen [])] [] [(33, .bool true), (32, .agg (SV.cells sx)), (6, .slice none 0 0), (4, vp b1 0), (0, .int .i64 (m : Nat)), (2, .int .i64 un)] ak0 ?_
        refine GoR.alloc rfl rfl (by kernel_rfl) (z := svZ) (by kernel_rfl) hs12 (cs := SV.cells dSV) (by kernel_rfl) ?_
        intro b15 w16 hs17
        refine ⟨(opl (n := [.prop (Value.int .i64 (IntKind.i64.wrap ((A % (m : Nat)) + 1)) = Value.int .i64 ((A % (m : Nat)) + 1)), .prop (IntKind.i64 = IntKind.i64 ∧ ((m : Nat) : Int) ≠ 0 ∧ Int.tmod A (m : Nat) = A % (m : Nat)), .prop (Value.int .i64 (IntKind.i64.wrap A) = Value.int .i64 A), .cell ⟨b1, 1, none⟩ (.int .u16 A), .prop (Array.size (#[.int .u8 kd, .int .u16 A, .int .i64 N] : Array Value) = 3), .cells ⟨b1, 0, none⟩ #[.int .u8 kd, .int .u16 A, .int .i64 N]]) (by kernel_rfl) (okp (i64ok (by omega) (by omega)) (okp ⟨rfl, by omega, Int.tmod_eq_emod_of_nonneg (by omega)⟩ (okp (i64ok (by omega) (by omega)) (okc (hs17.cell 1 rfl (by kernel_rfl)) (okp (by kernel_rfl) (oka (hs17.cells 1 0 rfl (by kernel_rfl)) ok0))))))), ?_⟩
        refine GoR.store rfl rfl (by kernel_rfl) (b := b15) (off := 0) (v := .agg (SV.cells sx)) (by kernel_rfl) (by kernel_rfl) (ti := Tryz.t50) (by kernel_rfl) hs17 0 rfl (by kernel_rfl) (by kernel_rfl) (Nat.le_of_ble_eq_true (by kernel_rfl)) (cs' := SV.cells sx) (L' := (Cel b15 (SV.cells sx) 50) :: (Cel b1 #[.int .u8 kd, .int .u16 A, .int .i64 N] 29) :: L) (by kernel_rfl) rfl ?_
        intro w18 hs19
        refine ⟨Zqo, ?_⟩
        refine Zqk [(13, .gen [])] [] [(8, .bool true), (7, vp b15 0), (6, .slice none 0 0), (4, vp b1 0), (0, .int .i64 (m : Nat)), (2, .int .i64 un)] ak0 ?_
        refine GoR.done ?_
        refine GoQ.pick [0, 2, 4, 6, 7, 8] (S' := [(0, .int .i64 (m : Nat)), (2, .int .i64 un), (4, vp b1 0), (6, .slice none 0 0), (7, vp b15 0), (8, .bool true)]) (by kernel_rfl) ?_
        exact GoQ.meet1 b15 rfl hs19
      refine GoR.alloc rfl rfl (by kernel_rfl) (z := svZ) (by kernel_rfl) hs10 (cs := SV.cells dSV) (by kernel_rfl) ?_
      intro b20 w21 hs22
      refine ⟨(opl (n := [.prop (Value.int .i64 (IntKind.i64.wrap ((A % (m : Nat)) + 1)) = Value.int .i64 ((A % (m : Nat)) + 1)), .prop (IntKind.i64 = IntKind.i64 ∧ ((m : Nat) : Int) ≠ 0 ∧ Int.tmod A (m : Nat) = A % (m : Nat)), .prop (Value.int .i64 (IntKind.i64.wrap A) = Value.int .i64 A), .cell ⟨b1, 1, none⟩ (.int .u16 A), .prop (Array.size (#[.int .u8 kd, .int .u16 A, .int .i64 N] : Array Value) = 3), .cells ⟨b1, 0, none⟩ #[.int .u8 kd, .int .u16 A, .int .i64 N]]) (by kernel_rfl) (okp (i64ok (by omega) (by omega)) (okp ⟨rfl, by omega, Int.tmod_eq_emod_of_nonneg (by omega)⟩ (okp (i64ok (by omega) (by omega)) (okc (hs22.cell 1 rfl (by kernel_rfl)) (okp (by kernel_rfl) (oka (hs22.cells 1 0 rfl (by kernel_rfl)) ok0))))))), ?_⟩
      refine Zqa (f := 18) (args := #[.agg #[.int .u8 kd, .int .u16 A, .int .i64 N], .int .i64 ((A % (m : Nat)) + 1)]) Tryz.call18 (hS hs22) ?_
      rintro v24 w25 ⟨rfl, hs23⟩
      refine ⟨Zqo, ?_⟩
      refine Zqk [(8, .gen []), (9, .gen []), (10, .gen [])] [] [(33, .bool true), (32, .agg (SV.cells sx)), (7, vp b20 0), (6, .slice none 0 0), (4, vp b1 0), (0, .int .i64 (m : Nat)), (2, .int .i64 un)] ak0 ?_
      refine GoR.store rfl rfl (by kernel_rfl) (b := b20) (off := 0) (v := .agg (SV.cells sx)) (by kernel_rfl) (by kernel_rfl) (ti := Tryz.t50) (by kernel_rfl) hs23 0 rfl (by kernel_rfl) (by kernel_rfl) (Nat.le_of_ble_eq_true (by kernel_rfl)) (cs' := SV.cells sx) (L' := (Cel b20 (SV.cells sx) 50) :: (Cel b1 #[.int .u8 kd, .int .u16 A, .int .i64 N] 29) :: L) (by kernel_rfl) rfl ?_
      intro w26 hs27
      refine ⟨Zqo, ?_⟩
      refine Zqk [(13, .gen [])] [] [(8, .bool true), (7, vp b20 0), (6, .slice none 0 0), (4, vp b1 0), (0, .int .i64 (m : Nat)), (2, .int .i64 un)] ak0 ?_
      refine GoR.done ?_
      refine GoQ.pick [0, 2, 4, 6, 7, 8] (S' := [(0, .int .i64 (m : Nat)), (2, .int .i64 un), (4, vp b1 0), (6, .slice none 0 0), (7, vp b20 0), (8, .bool true)]) (by kernel_rfl) ?_
      exact GoQ.meet1 b20 rfl hs27
    rintro b28 w29 hs30
    have hs31 : St w0 ((Cel b28 (SV.cells sx) 50) :: (Cel b1 #[.int .u8 kd, .int .u16 A, .int .i64 N] 29) :: L) w29 := hs30
    refine GoQ.slots (S' := [(0, .int .i64 (m : Nat)), (2, .int .i64 un), (4, vp b1 0), (6, .slice none 0 0), (7, vp b28 0), (8, .bool true)]) rfl ?_
    refine GoQ.thn (GoC.seq (GoC.seq ?_))
    refine Zqt (.rd 0 .done) ?_
    refine Zqk [(0, .gen [])] [] [(34, .bool true), (0, .int .i64 (m : Nat)), (2, .int .i64 un), (4, vp b1 0), (6, .slice none 0 0), (7, vp b28 0)] ak0 ?_
    refine GoR.done (GoQ.thn (ZqT (GoC.seq ?_)))
    refine Zqt (.rd 0 (.ef 1 (.rd 2 .done))) ?_
    refine Zqk [(0, .agg (SV.cells sx))] [(0, [.prop (Array.size (SV.cells sx) = 107), .cells ⟨b28, 0, none⟩ (SV.cells sx)])] [(35, .agg (SV.cells sx)), (0, .int .i64 (m : Nat)), (2, .int .i64 un), (4, vp b1 0), (6, .slice none 0 0)] (ak (okp (by kernel_rfl) (oka (hs31.cells 0 0 rfl (by kernel_rfl)) ok0)) ak0) ?_
    refine GoR.sliceLit rfl (by kernel_rfl) (t := 26) (e := 50) (n := 1) (ps := [(0, .agg (SV.cells sx))]) (by kernel_rfl) (by kernel_rfl) (ti := Tryz.t50) (z := svZ) (by kernel_rfl) (by kernel_rfl) (by decide) (by decide) (cs := SV.cells sx) (by kernel_rfl) hs31 ?_
    intro b32 w33 hs34 hz35
    have hs36 : St w0 ((Sl (some ⟨b32, 0, none⟩) 1 50 107 SV.cells ([(sx : SV)])) :: (Cel b28 (SV.cells sx) 50) :: (Cel b1 #[.int .u8 kd, .int .u16 A, .int .i64 N] 29) :: L) w33 := St.slOf (l := [(sx : SV)]) (f := SV.cells) hs34 hz35 (svF).size (by simp only [List.length_cons, List.length_nil, maxLen]; omega) (by kernel_rfl)
    refine ⟨Zqo, ?_⟩
    refine Zqk [(2, .gen [])] [] [(6, vl b32 0 1 1), (0, .int .i64 (m : Nat)), (2, .int .i64 un), (4, vp b1 0)] ak0 ?_
    refine GoR.done (GoQ.thn (GoC.ret (GoQ.skipCR ?_)))
    refine Zq1 (v := vl b32 0 1 1) ?_
    have hs37 : St w0 ((Rd (some ⟨b32, 0, none⟩) 107 SV.cells dSV ([sx])) :: (Cel b28 (SV.cells sx) 50) :: (Cel b1 #[.int .u8 kd, .int .u16 A, .int .i64 N] 29) :: L) w33 := St.rdSl svF dSV hs36
    have hs38 : St w0 ((Cel b28 (SV.cells sx) 50) :: (Cel b1 #[.int .u8 kd, .int .u16 A, .int .i64 N] 29) :: (Rd (some ⟨b32, 0, none⟩) 107 SV.cells dSV ([sx])) :: L) w33 := (((hs37.pull 0 rfl).pull 2 rfl).pull 2 rfl)
    have hs39 : St w0 ((Rd (some ⟨b32, 0, none⟩) 107 SV.cells dSV ([sx])) :: L) w33 := hs38.drop 2
    exact ⟨some ⟨b32, 0, none⟩, 1, rfl, hs39⟩
theorem ref1_spec {w0 w : World} {L : List Asn} (m : Nat) (un : Int) (A : Int) (N : Int) (hm : 3 ≤ m ∧ m ≤ 11 ∧ m % 2 = 1) (hA : 0 ≤ A ∧ A ≤ 65535) (hw : 0 ≤ A % (m : Int) ∧ A % (m : Int) < 11) (hu : un ≤ 300) (hmm : 0 ≤ ((m : Nat) : Int) * ((m : Nat) : Int) ∧ ((m : Nat) : Int) * ((m : Nat) : Int) ≤ 121) (hs : St w0 (L) w) : Calls Tryz.prog 7 #[.int .i64 (m : Nat), .agg #[.int .u8 1, .int .u16 A, .int .i64 N], .int .i64 un] w (Ret fun rv w' => ∃ (ao : Option Addr) (co : Nat), rv = .slice ao ((cutsL A m).length) co ∧ St w0 ((Rd ao 107 SV.cells dSV (cutsL A m)) :: L) w') := by
  refine enter (args := [.int .i64 (m : Nat), .agg #[.int .u8 1, .int .u16 A, .int .i64 N], .int .i64 un]) Tryz.func7 rfl Tryz.ntmps7 (Nat.le_of_ble_eq_true (by kernel_rfl)) ?_
  refine GoC.slots (S' := [(0, .int .i64 (m : Nat)), (1, .agg #[.int .u8 1, .int .u16 A, .int .i64 N]), (2, .int .i64 un)]) rfl ?_
  refine GoC.seq ?_
  refine Zqt (.ef 0 (.rd 1 .done)) ?_
  refine GoR.box rfl rfl (by kernel_rfl) (v := .agg #[.int .u8 1, .int .u16 A, .int .i64 N]) (by kernel_rfl) hs (cs := #[.int .u8 1, .int .u16 A, .int .i64 N]) (by kernel_rfl) ?_
  intro b1 w2 hs3
  refine ⟨Zqo, ?_⟩
  refine Zqk [(1, .gen [])] [] [(6, .slice none 0 0), (4, vp b1 0), (0, .int .i64 (m : Nat)), (2, .int .i64 un)] ak0 ?_
  refine GoR.done (GoQ.thn (GoC.seq (GoC.seq ?_)))
  refine GoC.join (T := Unit) (E := fun _ => [(22, .bool (((decide (((m : Nat) : Int) < 3)) || (decide (((m : Nat) : Int) > 11))) || ((((m : Nat) % 2) : Int) == 0))), (6, .slice none 0 0), (4, vp b1 0), (0, .int .i64 (m : Nat)), (2, .int .i64 un)]) (F := fun _ w => St w0 ((Cel b1 #[.int .u8 1, .int .u16 A, .int .i64 N] 29) :: L) w) ?_ ?_
  · refine Zqt (.rd 0 (.rd 1 (.rd 2 (.rd 3 (.rd 4 (.rd 5 (.rd 6 (.rd 7 (.rd 8 (.rd 9 (.rd 10 .done))))))))))) ?_
    refine Zqk [(0, .gen []), (1, .gen []), (2, .gen [])] [] [(14, .bool (decide (((m : Nat) : Int) < 3))), (6, .slice none 0 0), (4, vp b1 0), (0, .int .i64 (m : Nat)), (2, .int .i64 un)] ak0 ?_
    rcases Bool.eq_false_or_eq_true (decide (((m : Nat) : Int) < 3)) with h4 | h4
    · refine Zqs 14 true h4 ?_
      have h4' : ((m : Nat) : Int) < 3 := of_decide_eq_true h4
      refine Zqk [(3, .gen []), (4, .gen []), (5, .gen []), (6, .gen []), (7, .gen []), (8, .gen []), (9, .gen []), (10, .gen [])] [] [(22, .bool true), (6, .slice none 0 0), (4, vp b1 0), (0, .int .i64 (m : Nat)), (2, .int .i64 un)] ak0 ?_
      refine GoR.done ?_
      refine GoQ.pick [22, 6, 4, 0, 2] (S' := [(22, .bool true), (6, .slice none 0 0), (4, vp b1 0), (0, .int .i64 (m : Nat)), (2, .int .i64 un)]) (by kernel_rfl) ?_
      exact GoQ.meet1 () (by first | rfl | (simp only [h4, Bool.not_true, Bool.not_false, Bool.true_or, Bool.false_or, Bool.true_and, Bool.false_and, Bool.or_true, Bool.or_false, Bool.and_true, Bool.and_false]; done) | (simp [h4]; done)) hs3
    · refine Zqs 14 false h4 ?_
      have h4' : ¬ (((m : Nat) : Int) < 3) := of_decide_eq_false h4
      refine Zqk [(3, .gen []), (4, .gen []), (5, .gen []), (6, .gen [])] [] [(18, .bool (decide (((m : Nat) : Int) > 11))), (6, .slice none 0 0), (4, vp b1 0), (0, .int .i64 (m : Nat)), (2, .int .i64 un)] ak0 ?_
      rcases Bool.eq_false_or_eq_true (decide (((m : Nat) : Int) > 11)) with h5 | h5
      · refine Zqs 18 true h5 ?_
        have h5' : ((m : Nat) : Int) > 11 := of_decide_eq_true h5
        refine Zqk [(7, .gen []), (8, .gen []), (9, .gen []), (10, .gen [])] [] [(22, .bool true), (6, .slice none 0 0), (4, vp b1 0), (0, .int .i64 (m : Nat)), (2, .int .i64 un)] ak0 ?_
        refine GoR.done ?_
        refine GoQ.pick [22, 6, 4, 0, 2] (S' := [(22, .bool true), (6, .slice none 0 0), (4, vp b1 0), (0, .int .i64 (m : Nat)), (2, .int .i64 un)]) (by kernel_rfl) ?_
        exact GoQ.meet1 () (by first | rfl | (simp only [h4, h5, Bool.not_true, Bool.not_false, Bool.true_or, Bool.false_or, Bool.true_and, Bool.false_and, Bool.or_true, Bool.or_false, Bool.and_true, Bool.and_false]; done) | (simp [h4, h5]; done)) hs3
      · refine Zqs 18 false h5 ?_
        have h5' : ¬ (((m : Nat) : Int) > 11) := of_decide_eq_false h5
        refine Zqk [(7, .gen []), (8, .div ((m : Nat) % 2)), (9, .gen []), (10, .gen [])] [(8, [.prop (IntKind.i64 = IntKind.i64 ∧ (2 : Int) ≠ 0 ∧ Int.tmod (m : Nat) 2 = (m : Nat) % 2)])] [(22, .bool ((((m : Nat) % 2) : Int) == 0)), (6, .slice none 0 0), (4, vp b1 0), (0, .int .i64 (m : Nat)), (2, .int .i64 un)] (ak (okp ⟨rfl, by decide, Int.tmod_eq_emod_of_nonneg (by first | omega | exact Int.natCast_nonneg _)⟩ ok0) ak0) ?_
        refine GoR.done ?_
        refine GoQ.pick [22, 6, 4, 0, 2] (S' := [(22, .bool ((((m : Nat) % 2) : Int) == 0)), (6, .slice none 0 0), (4, vp b1 0), (0, .int .i64 (m : Nat)), (2, .int .i64 un)]) (by kernel_rfl) ?_
        exact GoQ.meet1 () (by first | rfl | (simp only [h4, h5, Bool.not_true, Bool.not_false, Bool.true_or, Bool.false_or, Bool.true_and, Bool.false_and, Bool.or_true, Bool.or_false, Bool.and_true, Bool.and_false]; done) | (simp [h4, h5]; done)) hs3
  intro _ w6 hs7
  refine GoQ.thn ?_
  refine Zqc (t := ((decide (((m : Nat) : Int) < 3)) || (decide (((m : Nat) : Int) > 11))) || ((((m : Nat) % 2) : Int) == 0)) (fun h8 => ?_) (fun h8 => ?_)
  · exfalso
    have hx := h8
    simp only [Bool.or_eq_true, decide_eq_true_eq, beq_iff_eq] at hx
    omega
  · have h8a : ((decide (((m : Nat) : Int) < 3)) || (decide (((m : Nat) : Int) > 11))) = false := (Bool.or_eq_false_iff.1 h8).1
    have h8aa : (decide (((m : Nat) : Int) < 3)) = false := (Bool.or_eq_false_iff.1 h8a).1
    have h8aa' : ¬ (((m : Nat) : Int) < 3) := of_decide_eq_false h8aa
    have h8ab : (decide (((m : Nat) : Int) > 11)) = false := (Bool.or_eq_false_iff.1 h8a).2
    have h8ab' : ¬ (((m : Nat) : Int) > 11) := of_decide_eq_false h8ab
    have h8b : ((((m : Nat) % 2) : Int) == 0) = false := (Bool.or_eq_false_iff.1 h8).2
    have h8b' : ¬ (((m : Nat) % 2 : Int) = 0) := ieqF h8b
    refine GoC.skip (GoQ.thn (GoC.seq ?_))
    refine GoC.join (T := Nat) (E := fun jx => [(0, .int .i64 (m : Nat)), (2, .int .i64 un), (4, vp b1 0), (6, .slice none 0 0), (7, vp jx 0), (8, .bool false)]) (F := fun jx w => St w0 ((Cel jx (SV.cells (⟨10, 0, 0, 0, N⟩ : SV)) 50) :: (Cel b1 #[.int .u8 1, .int .u16 A, .int .i64 N] 29) :: L) w) ?_ ?_
    · refine GoC.regD [0, 0, 2, 6, 0, 30, 62, 127, 255, 511, 511, 0, 3071, 8191] (.rd 0 (.rd 1 (.rd 2 (.rd 3 (.rd 4 (.rd 5 (.rd 6 (.alt (.ef 7 (.rd 8 (.rd 9 (.rd 10 (.ef 11 (.ef 12 (.rd 13 .done))))))) (.ef 11 (.ef 7 (.rd 8 (.rd 9 (.rd 10 (.ef 12 (.rd 13 .done))))))))))))))) (by kernel_rfl) (by kernel_rfl) noPan_body (by kernel_rfl) hs7 ?_
      intro w9 hs10 hw11
      refine Zqk [(0, .agg #[.int .u8 1, .int .u16 A, .int .i64 N]), (1, .gen []), (2, .gen [.int .u16 A]), (3, .as_ (.int .i64 A) (.gen [])), (4, .gen []), (5, .div (A % (m : Nat))), (6, .as_ (.int .i64 ((A % (m : Nat)) + 1)) (.gen []))] [(0, [.prop (Array.size (#[.int .u8 1, .int .u16 A, .int .i64 N] : Array Value) = 3), .cells ⟨b1, 0, none⟩ #[.int .u8 1, .int .u16 A, .int .i64 N]]), (2, [.cell ⟨b1, 1, none⟩ (.int .u16 A)]), (3, [.prop (Value.int .i64 (IntKind.i64.wrap A) = Value.int .i64 A)]), (5, [.prop (IntKind.i64 = IntKind.i64 ∧ ((m : Nat) : Int) ≠ 0 ∧ Int.tmod A (m : Nat) = A % (m : Nat))]), (6, [.prop (Value.int .i64 (IntKind.i64.wrap ((A % (m : Nat)) + 1)) = Value.int .i64 ((A % (m : Nat)) + 1))])] [(30, .int .i64 ((A % (m : Nat)) + 1)), (24, .agg #[.int .u8 1, .int .u16 A, .int .i64 N]), (6, .slice none 0 0), (4, vp b1 0), (0, .int .i64 (m : Nat)), (2, .int .i64 un)] (ak (okp (by kernel_rfl) (oka (hs10.cells 0 0 rfl (by kernel_rfl)) ok0)) (ak (okc (hs10.cell 0 rfl (by kernel_rfl)) ok0) (ak (okp (i64ok (by omega) (by omega)) ok0) (ak (okp ⟨rfl, by omega, Int.tmod_eq_emod_of_nonneg (by omega)⟩ ok0) (ak (okp (i64ok (by omega) (by omega)) ok0) ak0))))) ?_
      refine GoR.alt ?_ ?_
      · refine Zqa (f := 18) (args := #[.agg #[.int .u8 1, .int .u16 A, .int .i64 N], .int .i64 ((A % (m : Nat)) + 1)]) Tryz.call18 (singleO_spec 1 A N ((A % (m : Nat)) + 1) (by first | assumption | decide | omega) hs10) ?_
        rintro v13 w14 ⟨rfl, hs12⟩
        refine ⟨Zqo, ?_⟩
        refine Zqk [(8, .gen []), (9, .gen []), (10, .gen [])] [] [(33, .bool false), (32, .agg (SV.cells (⟨10, 0, 0, 0, N⟩ : SV))), (6, .slice none 0 0), (4, vp b1 0), (0, .int .i64 (m : Nat)), (2, .int .i64 un)] ak0 ?_
        refine GoR.alloc rfl rfl (by kernel_rfl) (z := svZ) (by kernel_rfl) hs12 (cs := SV.cells dSV) (by kernel_rfl) ?_
        intro b15 w16 hs17
        refine ⟨(opl (n := [.prop (Value.int .i64 (IntKind.i64.wrap ((A % (m : Nat)) + 1)) = Value.int .i64 ((A % (m : Nat)) + 1)), .prop (IntKind.i64 = IntKind.i64 ∧ ((m : Nat) : Int) ≠ 0 ∧ Int.tmod A (m : Nat) = A % (m : Nat)), .prop (Value.int .i64 (IntKind.i64.wrap A) = Value.int .i64 A), .cell ⟨b1, 1, none⟩ (.int .u16 A), .prop (Array.size (#[.int .u8 1, .int .u16 A, .int .i64 N] : Array Value) = 3), .cells ⟨b1, 0, none⟩ #[.int .u8 1, .int .u16 A, .int .i64 N]]) (by kernel_rfl) (okp (i64ok (by omega) (by omega)) (okp ⟨rfl, by omega, Int.tmod_eq_emod_of_nonneg (by omega)⟩ (okp (i64ok (by omega) (by omega)) (okc (hs17.cell 1 rfl (by kernel_rfl)) (okp (by kernel_rfl) (oka (hs17.cells 1 0 rfl (by kernel_rfl)) ok0))))))), ?_⟩
        refine GoR.store rfl rfl (by kernel_rfl) (b := b15) (off := 0) (v := .agg (SV.cells (⟨10, 0, 0, 0, N⟩ : SV))) (by kernel_rfl) (by kernel_rfl) (ti := Tryz.t50) (by kernel_rfl) hs17 0 rfl (by kernel_rfl) (by kernel_rfl) (Nat.le_of_ble_eq_true (by kernel_rfl)) (cs' := SV.cells (⟨10, 0, 0, 0, N⟩ : SV)) (L' := (Cel b15 (SV.cells (⟨10, 0, 0, 0, N⟩ : SV)) 50) :: (Cel b1 #[.int .u8 1, .int .u16 A, .int .i64 N] 29) :: L) (by kernel_rfl) rfl ?_
        intro w18 hs19
        refine ⟨Zqo, ?_⟩
        refine Zqk [(13, .gen [])] [] [(8, .bool false), (7, vp b15 0), (6, .slice none 0 0), (4, vp b1 0), (0, .int .i64 (m : Nat)), (2, .int .i64 un)] ak0 ?_
        refine GoR.done ?_
        refine GoQ.pick [0, 2, 4, 6, 7, 8] (S' := [(0, .int .i64 (m : Nat)), (2, .int .i64 un), (4, vp b1 0), (6, .slice none 0 0), (7, vp b15 0), (8, .bool false)]) (by kernel_rfl) ?_
        exact GoQ.meet1 b15 rfl hs19
      refine GoR.alloc rfl rfl (by kernel_rfl) (z := svZ) (by kernel_rfl) hs10 (cs := SV.cells dSV) (by kernel_rfl) ?_
      intro b20 w21 hs22
      refine ⟨(opl (n := [.prop (Value.int .i64 (IntKind.i64.wrap ((A % (m : Nat)) + 1)) = Value.int .i64 ((A % (m : Nat)) + 1)), .prop (IntKind.i64 = IntKind.i64 ∧ ((m : Nat) : Int) ≠ 0 ∧ Int.tmod A (m : Nat) = A % (m : Nat)), .prop (Value.int .i64 (IntKind.i64.wrap A) = Value.int .i64 A), .cell ⟨b1, 1, none⟩ (.int .u16 A), .prop (Array.size (#[.int .u8 1, .int .u16 A, .int .i64 N] : Array Value) = 3), .cells ⟨b1, 0, none⟩ #[.int .u8 1, .int .u16 A, .int .i64 N]]) (by kernel_rfl) (okp (i64ok (by omega) (by omega)) (okp ⟨rfl, by omega, Int.tmod_eq_emod_of_nonneg (by omega)⟩ (okp (i64ok (by omega) (by omega)) (okc (hs22.cell 1 rfl (by kernel_rfl)) (okp (by kernel_rfl) (oka (hs22.cells 1 0 rfl (by kernel_rfl)) ok0))))))), ?_⟩
      refine Zqa (f := 18) (args := #[.agg #[.int .u8 1, .int .u16 A, .int .i64 N], .int .i64 ((A % (m : Nat)) + 1)]) Tryz.call18 (singleO_spec 1 A N ((A % (m : Nat)) + 1) (by first | assumption | decide | omega) hs22) ?_
      rintro v24 w25 ⟨rfl, hs23⟩
      refine ⟨Zqo, ?_⟩
      refine Zqk [(8, .gen []), (9, .gen []), (10, .gen [])] [] [(33, .bool false), (32, .agg (SV.cells (⟨10, 0, 0, 0, N⟩ : SV))), (7, vp b20 0), (6, .slice none 0 0), (4, vp b1 0), (0, .int .i64 (m : Nat)), (2, .int .i64 un)] ak0 ?_
      refine GoR.store rfl rfl (by kernel_rfl) (b := b20) (off := 0) (v := .agg (SV.cells (⟨10, 0, 0, 0, N⟩ : SV))) (by kernel_rfl) (by kernel_rfl) (ti := Tryz.t50) (by kernel_rfl) hs23 0 rfl (by kernel_rfl) (by kernel_rfl) (Nat.le_of_ble_eq_true (by kernel_rfl)) (cs' := SV.cells (⟨10, 0, 0, 0, N⟩ : SV)) (L' := (Cel b20 (SV.cells (⟨10, 0, 0, 0, N⟩ : SV)) 50) :: (Cel b1 #[.int .u8 1, .int .u16 A, .int .i64 N] 29) :: L) (by kernel_rfl) rfl ?_
      intro w26 hs27
      refine ⟨Zqo, ?_⟩
      refine Zqk [(13, .gen [])] [] [(8, .bool false), (7, vp b20 0), (6, .slice none 0 0), (4, vp b1 0), (0, .int .i64 (m : Nat)), (2, .int .i64 un)] ak0 ?_
      refine GoR.done ?_
      refine GoQ.pick [0, 2, 4, 6, 7, 8] (S' := [(0, .int .i64 (m : Nat)), (2, .int .i64 un), (4, vp b1 0), (6, .slice none 0 0), (7, vp b20 0), (8, .bool false)]) (by kernel_rfl) ?_
      exact GoQ.meet1 b20 rfl hs27
    rintro b28 w29 hs30
    have hs31 : St w0 ((Cel b28 (SV.cells (⟨10, 0, 0, 0, N⟩ : SV)) 50) :: (Cel b1 #[.int .u8 1, .int .u16 A, .int .i64 N] 29) :: L) w29 := hs30
    refine GoQ.slots (S' := [(0, .int .i64 (m : Nat)), (2, .int .i64 un), (4, vp b1 0), (6, .slice none 0 0), (7, vp b28 0), (8, .bool false)]) rfl ?_
    refine GoQ.thn (GoC.seq (GoC.seq ?_))
    refine Zqt (.rd 0 .done) ?_
    refine Zqk [(0, .gen [])] [] [(34, .bool false), (0, .int .i64 (m : Nat)), (2, .int .i64 un), (4, vp b1 0), (6, .slice none 0 0), (7, vp b28 0)] ak0 ?_
    refine GoR.done (GoQ.thn (ZqF (GoC.skip (GoQ.thn (GoC.seq (GoC.seq ?_))))))
    refine Zqt (.rd 0 (.rd 1 (.rd 2 .done))) ?_
    refine Zqk [(0, .gen []), (1, .gen [.int .u8 1]), (2, .gen [])] [(1, [.cell ⟨b1, 0, none⟩ (.int .u8 1)])] [(39, .bool true), (0, .int .i64 (m : Nat)), (2, .int .i64 un), (4, vp b1 0), (6, .slice none 0 0)] (ak (okc (hs31.cell 1 rfl (by kernel_rfl)) ok0) ak0) ?_
    refine GoR.done (GoQ.thn (ZqT (GoC.seq ?_)))
    refine Zqt (.rd 0 (.rd 1 (.ef 2 (.rd 3 .done)))) ?_
    refine Zqk [(0, .agg #[.int .u8 1, .int .u16 A, .int .i64 N]), (1, .gen [])] [(0, [.prop (Array.size (#[.int .u8 1, .int .u16 A, .int .i64 N] : Array Value) = 3), .cells ⟨b1, 0, none⟩ #[.int .u8 1, .int .u16 A, .int .i64 N]])] [(41, .int .i64 (m : Nat)), (40, .agg #[.int .u8 1, .int .u16 A, .int .i64 N]), (0, .int .i64 (m : Nat)), (2, .int .i64 un), (4, vp b1 0), (6, .slice none 0 0)] (ak (okp (by kernel_rfl) (oka (hs31.cells 1 0 rfl (by kernel_rfl)) ok0)) ak0) ?_
    refine Zqa (f := 19) (args := #[.agg #[.int .u8 1, .int .u16 A, .int .i64 N], .int .i64 (m : Nat)]) Tryz.call19 (cuts_spec m 1 A N (by first | assumption | omega) (by first | assumption | omega) (mm_bounds (by omega)) hs31) ?_
    rintro v35 w36 ⟨ao32, co33, rfl, hs34⟩
    refine ⟨Zqo, ?_⟩
    refine Zqk [(3, .gen [])] [] [(6, .slice ao32 ((cutsL A m).length) co33), (0, .int .i64 (m : Nat)), (2, .int .i64 un), (4, vp b1 0)] ak0 ?_
    refine GoR.done (GoQ.thn (GoC.ret (GoQ.skipCR ?_)))
    refine Zq1 (v := .slice ao32 ((cutsL A m).length) co33) ?_
    have hs37 : St w0 ((Cel b28 (SV.cells (⟨10, 0, 0, 0, N⟩ : SV)) 50) :: (Cel b1 #[.int .u8 1, .int .u16 A, .int .i64 N] 29) :: (Rd ao32 107 SV.cells dSV (cutsL A m)) :: L) w36 := (((hs34.pull 0 rfl).pull 2 rfl).pull 2 rfl)
    have hs38 : St w0 ((Rd ao32 107 SV.cells dSV (cutsL A m)) :: L) w36 := hs37.drop 2
    exact ⟨ao32, co33, rfl, hs38⟩
def rowA (kd : Int) (k : Nat) : List SV := if kd = 7 then twiceL k else loseL k
def rowG (kd : Int) (m : Nat) (un : Int) : List SV := if kd = 9 then turnL m else if kd = 6 ∨ kd = 7 then rowA kd un.toNat else []
theorem rowA_nil {kd : Int} : ([] : List SV) = rowA kd 0 := by unfold rowA; split <;> rfl
theorem rowA7 {kd : Int} (h : kd = 7) (k : Nat) : rowA kd k = twiceL k := if_pos h
theorem rowA6 {kd : Int} (h : ¬ kd = 7) (k : Nat) : rowA kd k = loseL k := if_neg h
theorem rowB_len {kd : Int} {k : Nat} {q : List SV} (h1 : q.length = k) (h2 : 0 < k → kd = 6 ∨ kd = 7) (h9 : kd = 9) : q.length = 0 := by
  rcases Nat.eq_zero_or_pos k with h | h
  · omega
  · have := h2 h; omega
theorem rowB_nil {kd : Int} {k : Nat} {q : List SV} (h1 : q.length = k) (h2 : 0 < k → kd = 6 ∨ kd = 7) : q = if kd = 9 then turnR 0 else q := by
  by_cases h9 : kd = 9
  · rw [if_pos h9]; exact List.eq_nil_of_length_eq_zero (rowB_len h1 h2 h9)
  · rw [if_neg h9]
theorem rowG_eq {kd un : Int} {m k i : Nat} {q qb : List SV} (hA1 : q = rowA kd k) (hA2 : q.length = k) (hA3 : k ≤ un.toNat) (hA4 : 0 < k → kd = 6 ∨ kd = 7) (hxa : ¬ ((k : Int) < un) ∨ (¬ kd = 6 ∧ ¬ kd = 7)) (hB1 : qb = if kd = 9 then turnR i else q) (hB3 : i ≤ 2 * m) (hxb : ¬ ((i : Int) < 2 * (m : Int)) ∨ ¬ kd = 9) : qb = rowG kd m un := by
  unfold rowG
  by_cases h9 : kd = 9
  · rw [if_pos h9, hB1, if_pos h9, turnL, show i = 2 * m by omega]
  · rw [if_neg h9, hB1, if_neg h9]
    by_cases h6 : kd = 6 ∨ kd = 7
    · rw [if_pos h6, hA1, show k = un.toNat by omega]
    · rw [if_neg h6]
      refine List.eq_nil_of_length_eq_zero ?_
      rw [hA2]
      rcases Nat.eq_zero_or_pos k with h | h
      · exact h
      · exact absurd (hA4 h) h6
theorem rowG_6 (m : Nat) (un : Int) : rowG 6 m un = loseL un.toNat := by unfold rowG rowA; simp
theorem rowG_7 (m : Nat) (un : Int) : rowG 7 m un = twiceL un.toNat := by unfold rowG rowA; simp
theorem rowG_9 (m : Nat) (un : Int) : rowG 9 m un = turnL m := by unfold rowG rowA; simp
theorem rowG_0 {kd : Int} (h : kd = 0 ∨ 9 < kd) (m : Nat) (un : Int) : rowG kd m un = [] := by
  unfold rowG
  rw [if_neg (by omega), if_neg (by omega)]
theorem refG_spec {w0 w : World} {L : List Asn} (m : Nat) (un : Int) (kd : Int) (A : Int) (N : Int) (hm : 3 ≤ m ∧ m ≤ 11 ∧ m % 2 = 1) (hA : 0 ≤ A ∧ A ≤ 65535) (hw : 0 ≤ A % (m : Int) ∧ A % (m : Int) < 11) (hu : un ≤ 300) (hmm : 0 ≤ ((m : Nat) : Int) * ((m : Nat) : Int) ∧ ((m : Nat) : Int) * ((m : Nat) : Int) ≤ 121) (hkg : kd ≠ 1 ∧ kd ≠ 2 ∧ kd ≠ 3 ∧ kd ≠ 4 ∧ kd ≠ 5 ∧ kd ≠ 8) (hs : St w0 (L) w) : Calls Tryz.prog 7 #[.int .i64 (m : Nat), .agg #[.int .u8 kd, .int .u16 A, .int .i64 N], .int .i64 un] w (Ret fun rv w' => ∃ (ao : Option Addr) (co : Nat), rv = .slice ao ((rowG kd m un).length) co ∧ St w0 ((Rd ao 107 SV.cells dSV (rowG kd m un)) :: L) w') := by
  refine enter (args := [.int .i64 (m : Nat), .agg #[.int .u8 kd, .int .u16 A, .int .i64 N], .int .i64 un]) Tryz.func7 rfl Tryz.ntmps7 (Nat.le_of_ble_eq_true (by kernel_rfl)) ?_
  refine GoC.slots (S' := [(0, .int .i64 (m : Nat)), (1, .agg #[.int .u8 kd, .int .u16 A, .int .i64 N]), (2, .int .i64 un)]) rfl ?_
  refine GoC.seq ?_
  refine Zqt (.ef 0 (.rd 1 .done)) ?_
  refine GoR.box rfl rfl (by kernel_rfl) (v := .agg #[.int .u8 kd, .int .u16 A, .int .i64 N]) (by kernel_rfl) hs (cs := #[.int .u8 kd, .int .u16 A, .int .i64 N]) (by kernel_rfl) ?_
  intro b1 w2 hs3
  refine ⟨Zqo, ?_⟩
  refine Zqk [(1, .gen [])] [] [(6, .slice none 0 0), (4, vp b1 0), (0, .int .i64 (m : Nat)), (2, .int .i64 un)] ak0 ?_
  refine GoR.done (GoQ.thn (GoC.seq (GoC.seq ?_)))
  refine GoC.join (T := Unit) (E := fun _ => [(22, .bool (((decide (((m : Nat) : Int) < 3)) || (decide (((m : Nat) : Int) > 11))) || ((((m : Nat) % 2) : Int) == 0))), (6, .slice none 0 0), (4, vp b1 0), (0, .int .i64 (m : Nat)), (2, .int .i64 un)]) (F := fun _ w => St w0 ((Cel b1 #[.int .u8 kd, .int .u16 A, .int .i64 N] 29) :: L) w) ?_ ?_
  · refine Zqt (.rd 0 (.rd 1 (.rd 2 (.rd 3 (.rd 4 (.rd 5 (.rd 6 (.rd 7 (.rd 8 (.rd 9 (.rd 10 .done))))))))))) ?_
    refine Zqk [(0, .gen []), (1, .gen []), (2, .gen [])] [] [(14, .bool (decide (((m : Nat) : Int) < 3))), (6, .slice none 0 0), (4, vp b1 0), (0, .int .i64 (m : Nat)), (2, .int .i64 un)] ak0 ?_
    rcases Bool.eq_false_or_eq_true (decide (((m : Nat) : Int) < 3)) with h4 | h4
    · refine Zqs 14 true h4 ?_
      have h4' : ((m : Nat) : Int) < 3 := of_decide_eq_true h4
      refine Zqk [(3, .gen []), (4, .gen []), (5, .gen []), (6, .gen []), (7, .gen []), (8, .gen []), (9, .gen []), (10, .gen [])] [] [(22, .bool true), (6, .slice none 0 0), (4, vp b1 0), (0, .int .i64 (m : Nat)), (2, .int .i64 un)] ak0 ?_
      refine GoR.done ?_
      refine GoQ.pick [22, 6, 4, 0, 2] (S' := [(22, .bool true), (6, .slice none 0 0), (4, vp b1 0), (0, .int .i64 (m : Nat)), (2, .int .i64 un)]) (by kernel_rfl) ?_
      exact GoQ.meet1 () (by first | rfl | (simp only [h4, Bool.not_true, Bool.not_false, Bool.true_or, Bool.false_or, Bool.true_and, Bool.false_and, Bool.or_true, Bool.or_false, Bool.and_true, Bool.and_false]; done) | (simp [h4]; done)) hs3
    · refine Zqs 14 false h4 ?_
      have h4' : ¬ (((m : Nat) : Int) < 3) := of_decide_eq_false h4
      refine Zqk [(3, .gen []), (4, .gen []), (5, .gen []), (6, .gen [])] [] [(18, .bool (decide (((m : Nat) : Int) > 11))), (6, .slice none 0 0), (4, vp b1 0), (0, .int .i64 (m : Nat)), (2, .int .i64 un)] ak0 ?_
      rcases Bool.eq_false_or_eq_true (decide (((m : Nat) : Int) > 11)) with h5 | h5
      · refine Zqs 18 true h5 ?_
        have h5' : ((m : Nat) : Int) > 11 := of_decide_eq_true h5
        refine Zqk [(7, .gen []), (8, .gen []), (9, .gen []), (10, .gen [])] [] [(22, .bool true), (6, .slice none 0 0), (4, vp b1 0), (0, .int .i64 (m : Nat)), (2, .int .i64 un)] ak0 ?_
        refine GoR.done ?_
        refine GoQ.pick [22, 6, 4, 0, 2] (S' := [(22, .bool true), (6, .slice none 0 0), (4, vp b1 0), (0, .int .i64 (m : Nat)), (2, .int .i64 un)]) (by kernel_rfl) ?_
        exact GoQ.meet1 () (by first | rfl | (simp only [h4, h5, Bool.not_true, Bool.not_false, Bool.true_or, Bool.false_or, Bool.true_and, Bool.false_and, Bool.or_true, Bool.or_false, Bool.and_true, Bool.and_false]; done) | (simp [h4, h5]; done)) hs3
      · refine Zqs 18 false h5 ?_
        have h5' : ¬ (((m : Nat) : Int) > 11) := of_decide_eq_false h5
        refine Zqk [(7, .gen []), (8, .div ((m : Nat) % 2)), (9, .gen []), (10, .gen [])] [(8, [.prop (IntKind.i64 = IntKind.i64 ∧ (2 : Int) ≠ 0 ∧ Int.tmod (m : Nat) 2 = (m : Nat) % 2)])] [(22, .bool ((((m : Nat) % 2) : Int) == 0)), (6, .slice none 0 0), (4, vp b1 0), (0, .int .i64 (m : Nat)), (2, .int .i64 un)] (ak (okp ⟨rfl, by decide, Int.tmod_eq_emod_of_nonneg (by first | omega | exact Int.natCast_nonneg _)⟩ ok0) ak0) ?_
        refine GoR.done ?_
        refine GoQ.pick [22, 6, 4, 0, 2] (S' := [(22, .bool ((((m : Nat) % 2) : Int) == 0)), (6, .slice none 0 0), (4, vp b1 0), (0, .int .i64 (m : Nat)), (2, .int .i64 un)]) (by kernel_rfl) ?_
        exact GoQ.meet1 () (by first | rfl | (simp only [h4, h5, Bool.not_true, Bool.not_false, Bool.true_or, Bool.false_or, Bool.true_and, Bool.false_and, Bool.or_true, Bool.or_false, Bool.and_true, Bool.and_false]; done) | (simp [h4, h5]; done)) hs3
  intro _ w6 hs7
  refine GoQ.thn ?_
  refine Zqc (t := ((decide (((m : Nat) : Int) < 3)) || (decide (((m : Nat) : Int) > 11))) || ((((m : Nat) % 2) : Int) == 0)) (fun h8 => ?_) (fun h8 => ?_)
  · exfalso
    have hx := h8
    simp only [Bool.or_eq_true, decide_eq_true_eq, beq_iff_eq] at hx
    omega
  · have h8a : ((decide (((m : Nat) : Int) < 3)) || (decide (((m : Nat) : Int) > 11))) = false := (Bool.or_eq_false_iff.1 h8).1
    have h8aa : (decide (((m : Nat) : Int) < 3)) = false := (Bool.or_eq_false_iff.1 h8a).1
    have h8aa' : ¬ (((m : Nat) : Int) < 3) := of_decide_eq_false h8aa
    have h8ab : (decide (((m : Nat) : Int) > 11)) = false := (Bool.or_eq_false_iff.1 h8a).2
    have h8ab' : ¬ (((m : Nat) : Int) > 11) := of_decide_eq_false h8ab
    have h8b : ((((m : Nat) % 2) : Int) == 0) = false := (Bool.or_eq_false_iff.1 h8).2
    have h8b' : ¬ (((m : Nat) % 2 : Int) = 0) := ieqF h8b
    refine GoC.skip (GoQ.thn (GoC.seq ?_))
    refine GoC.join (T := Nat) (E := fun jx => [(0, .int .i64 (m : Nat)), (2, .int .i64 un), (4, vp b1 0), (6, .slice none 0 0), (7, vp jx 0), (8, .bool false)]) (F := fun jx w => St w0 ((Cel jx (SV.cells (⟨10, 0, 0, 0, N⟩ : SV)) 50) :: (Cel b1 #[.int .u8 kd, .int .u16 A, .int .i64 N] 29) :: L) w) ?_ ?_
    · refine GoC.regD [0, 0, 2, 6, 0, 30, 62, 127, 255, 511, 511, 0, 3071, 8191] (.rd 0 (.rd 1 (.rd 2 (.rd 3 (.rd 4 (.rd 5 (.rd 6 (.alt (.ef 7 (.rd 8 (.rd 9 (.rd 10 (.ef 11 (.ef 12 (.rd 13 .done))))))) (.ef 11 (.ef 7 (.rd 8 (.rd 9 (.rd 10 (.ef 12 (.rd 13 .done))))))))))))))) (by kernel_rfl) (by kernel_rfl) noPan_body (by kernel_rfl) hs7 ?_
      intro w9 hs10 hw11
      refine Zqk [(0, .agg #[.int .u8 kd, .int .u16 A, .int .i64 N]), (1, .gen []), (2, .gen [.int .u16 A]), (3, .as_ (.int .i64 A) (.gen [])), (4, .gen []), (5, .div (A % (m : Nat))), (6, .as_ (.int .i64 ((A % (m : Nat)) + 1)) (.gen []))] [(0, [.prop (Array.size (#[.int .u8 kd, .int .u16 A, .int .i64 N] : Array Value) = 3), .cells ⟨b1, 0, none⟩ #[.int .u8 kd, .int .u16 A, .int .i64 N]]), (2, [.cell ⟨b1, 1, none⟩ (.int .u16 A)]), (3, [.prop (Value.int .i64 (IntKind.i64.wrap A) = Value.int .i64 A)]), (5, [.prop (IntKind.i64 = IntKind.i64 ∧ ((m : Nat) : Int) ≠ 0 ∧ Int.tmod A (m : Nat) = A % (m : Nat))]), (6, [.prop (Value.int .i64 (IntKind.i64.wrap ((A % (m : Nat)) + 1)) = Value.int .i64 ((A % (m : Nat)) + 1))])] [(30, .int .i64 ((A % (m : Nat)) + 1)), (24, .agg #[.int .u8 kd, .int .u16 A, .int .i64 N]), (6, .slice none 0 0), (4, vp b1 0), (0, .int .i64 (m : Nat)), (2, .int .i64 un)] (ak (okp (by kernel_rfl) (oka (hs10.cells 0 0 rfl (by kernel_rfl)) ok0)) (ak (okc (hs10.cell 0 rfl (by kernel_rfl)) ok0) (ak (okp (i64ok (by omega) (by omega)) ok0) (ak (okp ⟨rfl, by omega, Int.tmod_eq_emod_of_nonneg (by omega)⟩ ok0) (ak (okp (i64ok (by omega) (by omega)) ok0) ak0))))) ?_
      refine GoR.alt ?_ ?_
      · refine Zqa (f := 18) (args := #[.agg #[.int .u8 kd, .int .u16 A, .int .i64 N], .int .i64 ((A % (m : Nat)) + 1)]) Tryz.call18 (singleO_spec kd A N ((A % (m : Nat)) + 1) (by first | assumption | decide | omega) hs10) ?_
        rintro v13 w14 ⟨rfl, hs12⟩
        refine ⟨Zqo, ?_⟩
        refine Zqk [(8, .gen []), (9, .gen []), (10, .gen [])] [] [(33, .bool false), (32, .agg (SV.cells (⟨10, 0, 0, 0, N⟩ : SV))), (6, .slice none 0 0), (4, vp b1 0), (0, .int .i64 (m : Nat)), (2, .int .i64 un)] ak0 ?_
        refine GoR.alloc rfl rfl (by kernel_rfl) (z := svZ) (by kernel_rfl) hs12 (cs := SV.cells dSV) (by kernel_rfl) ?_
        intro b15 w16 hs17
        refine ⟨(opl (n := [.prop (Value.int .i64 (IntKind.i64.wrap ((A % (m : Nat)) + 1)) = Value.int .i64 ((A % (m : Nat)) + 1)), .prop (IntKind.i64 = IntKind.i64 ∧ ((m : Nat) : Int) ≠ 0 ∧ Int.tmod A (m : Nat) = A % (m : Nat)), .prop (Value.int .i64 (IntKind.i64.wrap A) = Value.int .i64 A), .cell ⟨b1, 1, none⟩ (.int .u16 A), .prop (Array.size (#[.int .u8 kd, .int .u16 A, .int .i64 N] : Array Value) = 3), .cells ⟨b1, 0, none⟩ #[.int .u8 kd, .int .u16 A, .int .i64 N]]) (by kernel_rfl) (okp (i64ok (by omega) (by omega)) (okp ⟨rfl, by omega, Int.tmod_eq_emod_of_nonneg (by omega)⟩ (okp (i64ok (by omega) (by omega)) (okc (hs17.cell 1 rfl (by kernel_rfl)) (okp (by kernel_rfl) (oka (hs17.cells 1 0 rfl (by kernel_rfl)) ok0))))))), ?_⟩
        refine GoR.store rfl rfl (by kernel_rfl) (b := b15) (off := 0) (v := .agg (SV.cells (⟨10, 0, 0, 0, N⟩ : SV))) (by kernel_rfl) (by kernel_rfl) (ti := Tryz.t50) (by kernel_rfl) hs17 0 rfl (by kernel_rfl) (by kernel_rfl) (Nat.le_of_ble_eq_true (by kernel_rfl)) (cs' := SV.cells (⟨10, 0, 0, 0, N⟩ : SV)) (L' := (Cel b15 (SV.cells (⟨10, 0, 0, 0, N⟩ : SV)) 50) :: (Cel b1 #[.int .u8 kd, .int .u16 A, .int .i64 N] 29) :: L) (by kernel_rfl) rfl ?_
        intro w18 hs19
        refine ⟨Zqo, ?_⟩
        refine Zqk [(13, .gen [])] [] [(8, .bool false), (7, vp b15 0), (6, .slice none 0 0), (4, vp b1 0), (0, .int .i64 (m : Nat)), (2, .int .i64 un)] ak0 ?_
        refine GoR.done ?_
        refine GoQ.pick [0, 2, 4, 6, 7, 8] (S' := [(0, .int .i64 (m : Nat)), (2, .int .i64 un), (4, vp b1 0), (6, .slice none 0 0), (7, vp b15 0), (8, .bool false)]) (by kernel_rfl) ?_
        exact GoQ.meet1 b15 rfl hs19
      refine GoR.alloc rfl rfl (by kernel_rfl) (z := svZ) (by kernel_rfl) hs10 (cs := SV.cells dSV) (by kernel_rfl) ?_
      intro b20 w21 hs22
      refine ⟨(opl (n := [.prop (Value.int .i64 (IntKind.i64.wrap ((A % (m : Nat)) + 1)) = Value.int .i64 ((A % (m : Nat)) + 1)), .prop (IntKind.i64 = IntKind.i64 ∧ ((m : Nat) : Int) ≠ 0 ∧ Int.tmod A (m : Nat) = A % (m : Nat)), .prop (Value.int .i64 (IntKind.i64.wrap A) = Value.int .i64 A), .cell ⟨b1, 1, none⟩ (.int .u16 A), .prop (Array.size (#[.int .u8 kd, .int .u16 A, .int .i64 N] : Array Value) = 3), .cells ⟨b1, 0, none⟩ #[.int .u8 kd, .int .u16 A, .int .i64 N]]) (by kernel_rfl) (okp (i64ok (by omega) (by omega)) (okp ⟨rfl, by omega, Int.tmod_eq_emod_of_nonneg (by omega)⟩ (okp (i64ok (by omega) (by omega)) (okc (hs22.cell 1 rfl (by kernel_rfl)) (okp (by kernel_rfl) (oka (hs22.cells 1 0 rfl (by kernel_rfl)) ok0))))))), ?_⟩
      refine Zqa (f := 18) (args := #[.agg #[.int .u8 kd, .int .u16 A, .int .i64 N], .int .i64 ((A % (m : Nat)) + 1)]) Tryz.call18 (singleO_spec kd A N ((A % (m : Nat)) + 1) (by first | assumption | decide | omega) hs22) ?_
      rintro v24 w25 ⟨rfl, hs23⟩
      refine ⟨Zqo, ?_⟩
      refine Zqk [(8, .gen []), (9, .gen []), (10, .gen [])] [] [(33, .bool false), (32, .agg (SV.cells (⟨10, 0, 0, 0, N⟩ : SV))), (7, vp b20 0), (6, .slice none 0 0), (4, vp b1 0), (0, .int .i64 (m : Nat)), (2, .int .i64 un)] ak0 ?_
      refine GoR.store rfl rfl (by kernel_rfl) (b := b20) (off := 0) (v := .agg (SV.cells (⟨10, 0, 0, 0, N⟩ : SV))) (by kernel_rfl) (by kernel_rfl) (ti := Tryz.t50) (by kernel_rfl) hs23 0 rfl (by kernel_rfl) (by kernel_rfl) (Nat.le_of_ble_eq_true (by kernel_rfl)) (cs' := SV.cells (⟨10, 0, 0, 0, N⟩ : SV)) (L' := (Cel b20 (SV.cells (⟨10, 0, 0, 0, N⟩ : SV)) 50) :: (Cel b1 #[.int .u8 kd, .int .u16 A, .int .i64 N] 29) :: L) (by kernel_rfl) rfl ?_
      intro w26 hs27
      refine ⟨Zqo, ?_⟩
      refine Zqk [(13, .gen [])] [] [(8, .bool false), (7, vp b20 0), (6, .slice none 0 0), (4, vp b1 0), (0, .int .i64 (m : Nat)), (2, .int .i64 un)] ak0 ?_
      refine GoR.done ?_
      refine GoQ.pick [0, 2, 4, 6, 7, 8] (S' := [(0, .int .i64 (m : Nat)), (2, .int .i64 un), (4, vp b1 0), (6, .slice none 0 0), (7, vp b20 0), (8, .bool false)]) (by kernel_rfl) ?_
      exact GoQ.meet1 b20 rfl hs27
    rintro b28 w29 hs30
    have hs31 : St w0 ((Cel b28 (SV.cells (⟨10, 0, 0, 0, N⟩ : SV)) 50) :: (Cel b1 #[.int .u8 kd, .int .u16 A, .int .i64 N] 29) :: L) w29 := hs30
    refine GoQ.slots (S' := [(0, .int .i64 (m : Nat)), (2, .int .i64 un), (4, vp b1 0), (6, .slice none 0 0), (7, vp b28 0), (8, .bool false)]) rfl ?_
    refine GoQ.thn (GoC.seq (GoC.seq ?_))
    refine Zqt (.rd 0 .done) ?_
    refine Zqk [(0, .gen [])] [] [(34, .bool false), (0, .int .i64 (m : Nat)), (2, .int .i64 un), (4, vp b1 0), (6, .slice none 0 0), (7, vp b28 0)] ak0 ?_
    refine GoR.done (GoQ.thn (ZqF (GoC.skip (GoQ.thn (GoC.seq (GoC.seq ?_))))))
    refine Zqt (.rd 0 (.rd 1 (.rd 2 .done))) ?_
    refine Zqk [(0, .gen []), (1, .gen [.int .u8 kd]), (2, .gen [])] [(1, [.cell ⟨b1, 0, none⟩ (.int .u8 kd)])] [(39, .bool ((kd : Int) == 1)), (0, .int .i64 (m : Nat)), (2, .int .i64 un), (4, vp b1 0), (6, .slice none 0 0)] (ak (okc (hs31.cell 1 rfl (by kernel_rfl)) ok0) ak0) ?_
    refine GoR.done (GoQ.thn ?_)
    refine Zqc (t := (kd : Int) == 1) (fun h32 => ?_) (fun h32 => ?_)
    · have h32' : (kd : Int) = 1 := ieqT h32
      exfalso; omega
    · have h32' : ¬ ((kd : Int) = 1) := ieqF h32
      refine GoC.skip (GoQ.thn (GoC.seq ?_))
      refine Zqt (.rd 0 .done) ?_
      refine Zqk [(0, .gen [])] [] [(9, .slice none 0 0), (0, .int .i64 (m : Nat)), (2, .int .i64 un), (4, vp b1 0), (6, .slice none 0 0)] ak0 ?_
      refine GoR.done (GoQ.thn (GoC.seq (GoC.seq ?_)))
      refine Zqt (.rd 0 .done) ?_
      refine Zqk [(0, .gen [])] [] [(10, .int .i64 0), (9, .slice none 0 0), (0, .int .i64 (m : Nat)), (2, .int .i64 un), (4, vp b1 0), (6, .slice none 0 0)] ak0 ?_
      refine GoR.done (GoQ.thn (GoC.block ?_))
      have hs33 : St w0 ((Sl none 0 50 107 SV.cells ([] : List SV)) :: (Cel b28 (SV.cells (⟨10, 0, 0, 0, N⟩ : SV)) 50) :: (Cel b1 #[.int .u8 kd, .int .u16 A, .int .i64 N] 29) :: L) w29 := St.slNil hs31 50 107 SV.cells
      refine GoC.loop (T := Nat × (List SV) × (Option Addr) × Nat × Nat) (fun gg => [(0, .int .i64 (m : Nat)), (2, .int .i64 un), (4, vp b1 0), (6, .slice none 0 0), (9, .slice gg.2.2.1 gg.2.2.2.2 gg.2.2.2.1), (10, .int .i64 (gg.1 : Nat))]) (fun gg w => (gg.2.1 = rowA kd gg.1 ∧ gg.2.1.length = gg.1 ∧ gg.1 ≤ un.toNat ∧ (0 < gg.1 → kd = 6 ∨ kd = 7) ∧ gg.2.2.2.2 = gg.2.1.length) ∧ St w0 ((Sl gg.2.2.1 gg.2.2.2.1 50 107 SV.cells gg.2.1) :: (Cel b28 (SV.cells (⟨10, 0, 0, 0, N⟩ : SV)) 50) :: (Cel b1 #[.int .u8 kd, .int .u16 A, .int .i64 N] 29) :: L) w) (fun gg => un.toNat - gg.1) (0, ([] : List SV), none, 0, 0) [0, 2, 4, 6, 9, 10] (by kernel_rfl) ⟨⟨rowA_nil, rfl, Nat.zero_le _, fun h => absurd h (Nat.lt_irrefl _), rfl⟩, hs33⟩ ?_
      rintro ⟨k, q, adq, cq, nq⟩ w34 ⟨hp0, hs35⟩
      have hp : q = rowA kd k ∧ q.length = k ∧ k ≤ un.toNat ∧ (0 < k → kd = 6 ∨ kd = 7) ∧ nq = q.length := hp0
      have hs36 : St w0 ((Sl adq cq 50 107 SV.cells q) :: (Cel b28 (SV.cells (⟨10, 0, 0, 0, N⟩ : SV)) 50) :: (Cel b1 #[.int .u8 kd, .int .u16 A, .int .i64 N] 29) :: L) w34 := hs35
      refine GoC.slots (S' := [(0, .int .i64 (m : Nat)), (2, .int .i64 un), (4, vp b1 0), (6, .slice none 0 0), (9, .slice adq nq cq), (10, .int .i64 (k : Nat))]) rfl ?_
      have hnq : nq = q.length := by omega
      subst hnq
      refine GoC.seq (GoC.seq ?_)
      refine GoC.join (T := Unit) (E := fun _ => [(55, .bool ((decide (((k : Nat) : Int) < un)) && (((kd : Int) == 6) || ((kd : Int) == 7)))), (0, .int .i64 (m : Nat)), (2, .int .i64 un), (4, vp b1 0), (6, .slice none 0 0), (9, .slice adq q.length cq), (10, .int .i64 (k : Nat))]) (F := fun _ w => St w0 ((Sl adq cq 50 107 SV.cells q) :: (Cel b28 (SV.cells (⟨10, 0, 0, 0, N⟩ : SV)) 50) :: (Cel b1 #[.int .u8 kd, .int .u16 A, .int .i64 N] 29) :: L) w) ?_ ?_
      · refine Zqt (.rd 0 (.rd 1 (.rd 2 (.rd 3 (.rd 4 (.rd 5 (.rd 6 (.rd 7 (.rd 8 (.rd 9 (.rd 10 (.rd 11 (.rd 12 .done))))))))))))) ?_
        refine Zqk [(0, .gen []), (1, .gen []), (2, .gen []), (3, .gen [])] [] [(46, .bool (decide (((k : Nat) : Int) < un))), (0, .int .i64 (m : Nat)), (2, .int .i64 un), (4, vp b1 0), (6, .slice none 0 0), (9, .slice adq q.length cq), (10, .int .i64 (k : Nat))] ak0 ?_
        rcases Bool.eq_false_or_eq_true (decide (((k : Nat) : Int) < un)) with h37 | h37
        · refine Zqs 46 true h37 ?_
          have h37' : ((k : Nat) : Int) < un := of_decide_eq_true h37
          refine Zqk [(4, .gen []), (5, .gen [.int .u8 kd]), (6, .gen []), (7, .gen [])] [(5, [.cell ⟨b1, 0, none⟩ (.int .u8 kd)])] [(50, .bool ((kd : Int) == 6)), (46, .bool true), (0, .int .i64 (m : Nat)), (2, .int .i64 un), (4, vp b1 0), (6, .slice none 0 0), (9, .slice adq q.length cq), (10, .int .i64 (k : Nat))] (ak (okc (hs36.cell 2 rfl (by kernel_rfl)) ok0) ak0) ?_
          rcases Bool.eq_false_or_eq_true ((kd : Int) == 6) with h38 | h38
          · refine Zqs 50 true h38 ?_
            have h38' : (kd : Int) = 6 := ieqT h38
            refine Zqk [(8, .gen []), (9, .gen []), (10, .gen []), (11, .gen []), (12, .gen [])] [] [(55, .bool true), (0, .int .i64 (m : Nat)), (2, .int .i64 un), (4, vp b1 0), (6, .slice none 0 0), (9, .slice adq q.length cq), (10, .int .i64 (k : Nat))] ak0 ?_
            refine GoR.done ?_
            refine GoQ.pick [55, 0, 2, 4, 6, 9, 10] (S' := [(55, .bool true), (0, .int .i64 (m : Nat)), (2, .int .i64 un), (4, vp b1 0), (6, .slice none 0 0), (9, .slice adq q.length cq), (10, .int .i64 (k : Nat))]) (by kernel_rfl) ?_
            exact GoQ.meet1 () (by first | rfl | (simp only [h37, h38, Bool.not_true, Bool.not_false, Bool.true_or, Bool.false_or, Bool.true_and, Bool.false_and, Bool.or_true, Bool.or_false, Bool.and_true, Bool.and_false]; done) | (simp [h37, h38]; done)) hs36
          · refine Zqs 50 false h38 ?_
            have h38' : ¬ ((kd : Int) = 6) := ieqF h38
            refine Zqk [(8, .gen []), (9, .gen [.int .u8 kd]), (10, .gen []), (11, .gen []), (12, .gen [])] [(9, [.cell ⟨b1, 0, none⟩ (.int .u8 kd)])] [(55, .bool ((kd : Int) == 7)), (0, .int .i64 (m : Nat)), (2, .int .i64 un), (4, vp b1 0), (6, .slice none 0 0), (9, .slice adq q.length cq), (10, .int .i64 (k : Nat))] (ak (okc (hs36.cell 2 rfl (by kernel_rfl)) ok0) ak0) ?_
            refine GoR.done ?_
            refine GoQ.pick [55, 0, 2, 4, 6, 9, 10] (S' := [(55, .bool ((kd : Int) == 7)), (0, .int .i64 (m : Nat)), (2, .int .i64 un), (4, vp b1 0), (6, .slice none 0 0), (9, .slice adq q.length cq), (10, .int .i64 (k : Nat))]) (by kernel_rfl) ?_
            exact GoQ.meet1 () (by first | rfl | (simp only [h37, h38, Bool.not_true, Bool.not_false, Bool.true_or, Bool.false_or, Bool.true_and, Bool.false_and, Bool.or_true, Bool.or_false, Bool.and_true, Bool.and_false]; done) | (simp [h37, h38]; done)) hs36
        · refine Zqs 46 false h37 ?_
          have h37' : ¬ (((k : Nat) : Int) < un) := of_decide_eq_false h37
          refine Zqk [(4, .gen []), (5, .gen []), (6, .gen []), (7, .gen []), (8, .gen []), (9, .gen []), (10, .gen []), (11, .gen []), (12, .gen [])] [] [(55, .bool false), (0, .int .i64 (m : Nat)), (2, .int .i64 un), (4, vp b1 0), (6, .slice none 0 0), (9, .slice adq q.length cq), (10, .int .i64 (k : Nat))] ak0 ?_
          refine GoR.done ?_
          refine GoQ.pick [55, 0, 2, 4, 6, 9, 10] (S' := [(55, .bool false), (0, .int .i64 (m : Nat)), (2, .int .i64 un), (4, vp b1 0), (6, .slice none 0 0), (9, .slice adq q.length cq), (10, .int .i64 (k : Nat))]) (by kernel_rfl) ?_
          exact GoQ.meet1 () (by first | rfl | (simp only [h37, Bool.not_true, Bool.not_false, Bool.true_or, Bool.false_or, Bool.true_and, Bool.false_and, Bool.or_true, Bool.or_false, Bool.and_true, Bool.and_false]; done) | (simp [h37]; done)) hs36
      intro _ w39 hs40
      refine GoQ.thn ?_
      refine Zqc (t := (decide (((k : Nat) : Int) < un)) && (((kd : Int) == 6) || ((kd : Int) == 7))) (fun h41 => ?_) (fun h41 => ?_)
      · have h41a : (decide (((k : Nat) : Int) < un)) = true := (Bool.and_eq_true_iff.1 h41).1
        have h41a' : ((k : Nat) : Int) < un := of_decide_eq_true h41a
        have h41b : (((kd : Int) == 6) || ((kd : Int) == 7)) = true := (Bool.and_eq_true_iff.1 h41).2
        have hxa : ((k : Int) < un) ∧ (kd = 6 ∨ kd = 7) := by
          have hz := h41
          simp only [Bool.and_eq_true, Bool.or_eq_true, decide_eq_true_eq, beq_iff_eq] at hz
          omega
        refine GoC.skip (GoQ.thn (GoC.seq (GoC.block (GoC.seq ?_))))
        refine Zqt (.rd 0 (.rd 1 (.ef 2 (.ef 3 (.rd 4 .done))))) ?_
        refine Zqk [(0, .gen []), (1, .gen [])] [] [(59, .agg (SV.cells (⟨6, 0, 0, 0, 0⟩ : SV))), (58, .slice adq q.length cq), (0, .int .i64 (m : Nat)), (2, .int .i64 un), (4, vp b1 0), (6, .slice none 0 0), (9, .slice adq q.length cq), (10, .int .i64 (k : Nat))] ak0 ?_
        refine GoR.sliceLit rfl (by kernel_rfl) (t := 26) (e := 50) (n := 1) (ps := [(0, .agg (SV.cells (⟨6, 0, 0, 0, 0⟩ : SV)))]) (by kernel_rfl) (by kernel_rfl) (ti := Tryz.t50) (z := svZ) (by kernel_rfl) (by kernel_rfl) (by decide) (by decide) (cs := SV.cells (⟨6, 0, 0, 0, 0⟩ : SV)) (by kernel_rfl) hs40 ?_
        intro b42 w43 hs44 hz45
        have hs46 : St w0 ((Sl (some ⟨b42, 0, none⟩) 1 50 107 SV.cells ([((⟨6, 0, 0, 0, 0⟩ : SV) : SV)])) :: (Sl adq cq 50 107 SV.cells q) :: (Cel b28 (SV.cells (⟨10, 0, 0, 0, N⟩ : SV)) 50) :: (Cel b1 #[.int .u8 kd, .int .u16 A, .int .i64 N] 29) :: L) w43 := St.slOf (l := [((⟨6, 0, 0, 0, 0⟩ : SV) : SV)]) (f := SV.cells) hs44 hz45 (svF).size (by simp only [List.length_cons, List.length_nil, maxLen]; omega) (by kernel_rfl)
        refine ⟨Zqo, ?_⟩
        have hs49 : St w0 ((Sl adq cq 50 107 SV.cells q) :: (Sl (some ⟨b42, 0, none⟩) 1 50 107 SV.cells ([((⟨6, 0, 0, 0, 0⟩ : SV) : SV)])) :: (Cel b28 (SV.cells (⟨10, 0, 0, 0, N⟩ : SV)) 50) :: (Cel b1 #[.int .u8 kd, .int .u16 A, .int .i64 N] 29) :: L) w43 := (hs46.pull 1 rfl)
        refine GoR.append rfl (by kernel_rfl) svsOK svF (ad := adq) (c := cq) (xs := q) (ys := [((⟨6, 0, 0, 0, 0⟩ : SV) : SV)]) (adx := some ⟨b42, 0, none⟩) (cx := 1) dSV (by kernel_rfl) hs49 (hs49.rows 1 rfl (svF).size dSV) (fun h => nomatch h) (by simp only [List.length_append, List.length_cons, List.length_nil]; omega) (by simp only [List.length_append, List.length_cons, List.length_nil]; omega) ?_
        intro ad50 c51 w47 hs48
        refine ⟨Zqo, ?_⟩
        refine Zqk [(4, .gen [])] [] [(9, .slice ad50 ((q ++ ([((⟨6, 0, 0, 0, 0⟩ : SV) : SV)])).length) c51), (0, .int .i64 (m : Nat)), (2, .int .i64 un), (4, vp b1 0), (6, .slice none 0 0), (10, .int .i64 (k : Nat))] ak0 ?_
        refine GoR.done (GoQ.thn (GoC.seq ?_))
        refine Zqt (.rd 0 (.rd 1 (.rd 2 .done))) ?_
        refine Zqk [(0, .gen []), (1, .gen [.int .u8 kd]), (2, .gen [])] [(1, [.cell ⟨b1, 0, none⟩ (.int .u8 kd)])] [(64, .bool ((kd : Int) == 7)), (9, .slice ad50 ((q ++ ([((⟨6, 0, 0, 0, 0⟩ : SV) : SV)])).length) c51), (0, .int .i64 (m : Nat)), (2, .int .i64 un), (4, vp b1 0), (6, .slice none 0 0), (10, .int .i64 (k : Nat))] (ak (okc (hs48.cell 3 rfl (by kernel_rfl)) ok0) ak0) ?_
        refine GoR.done (GoQ.thn ?_)
        refine Zqc (t := (kd : Int) == 7) (fun h52 => ?_) (fun h52 => ?_)
        · have h52' : (kd : Int) = 7 := ieqT h52
          have hlp : 0 < (q ++ ([((⟨6, 0, 0, 0, 0⟩ : SV) : SV)])).length := by simp only [List.length_append, List.length_cons, List.length_nil]; omega
          have hlk : k < (q ++ ([((⟨6, 0, 0, 0, 0⟩ : SV) : SV)])).length := by simp only [List.length_append, List.length_cons, List.length_nil]; omega
          obtain ⟨ab53, rfl⟩ := Sl.isSome (hs48.at_ 0 rfl) (by omega)
          refine Zqt (.rd 0 (.rd 1 (.rd 2 (.rd 3 (.rd 4 (.ef 5 .done)))))) ?_
          refine Zqk [(0, .gen []), (1, .gen []), (2, .gen []), (3, .gen []), (4, .as_ (vp ab53 (0 + (k * 107))) .at_)] [(4, [.prop (0 ≤ ((k : Nat) : Int) ∧ ((k : Nat) : Int) < (((q ++ ([((⟨6, 0, 0, 0, 0⟩ : SV) : SV)])).length : Nat) : Int)), .prop (Value.pointer (some (Addr.add ⟨ab53, 0, none⟩ (Int.toNat (k : Nat) * 107))) = Value.pointer (some ⟨ab53, 0 + (k * 107), none⟩))])] [(69, vp ab53 (0 + (k * 107))), (68, .agg (SV.cells (⟨7, 0, 0, (k : Nat), 0⟩ : SV))), (9, vl ab53 0 ((q ++ ([((⟨6, 0, 0, 0, 0⟩ : SV) : SV)])).length) c51), (0, .int .i64 (m : Nat)), (2, .int .i64 un), (4, vp b1 0), (6, .slice none 0 0), (10, .int .i64 (k : Nat))] (ak (okp (by omega) (okp (ptrAdd _ _ _) ok0)) ak0) ?_
          refine GoR.storeSl rfl rfl (by kernel_rfl) (b := ab53) (off := 0 + (k * 107)) (v := .agg (SV.cells (⟨7, 0, 0, (k : Nat), 0⟩ : SV))) (by kernel_rfl) (by kernel_rfl) (ti := Tryz.t50) (by kernel_rfl) hs48 0 (svF).size rfl (by kernel_rfl) (by kernel_rfl) (by rw [Nat.zero_add]; exact field_room (f := SV.cells) (size := 107) (l := q ++ ([((⟨6, 0, 0, 0, 0⟩ : SV) : SV)])) (k := k) (o := 0) (n := 107) (svF).size (by first | omega | (simp only [List.length_set]; omega) | (simp only [List.length_set, List.length_append, List.length_cons, List.length_nil]; omega)) (by decide)) (List.length_set ..) (xs' := (q ++ ([((⟨6, 0, 0, 0, 0⟩ : SV) : SV)])).set k (⟨7, 0, 0, (k : Nat), 0⟩ : SV)) (by rw [Nat.zero_add]; exact splice_field (f := SV.cells) (size := 107) (l := q ++ ([((⟨6, 0, 0, 0, 0⟩ : SV) : SV)])) (k := k) (o := 0) (svF).size (by first | omega | (simp only [List.length_set]; omega) | (simp only [List.length_set, List.length_append, List.length_cons, List.length_nil]; omega)) dSV (⟨7, 0, 0, (k : Nat), 0⟩ : SV) (Nat.le_of_ble_eq_true rfl) (by kernel_rfl)) (L' := (Sl (some ⟨ab53, 0, none⟩) c51 50 107 SV.cells ((q ++ ([((⟨6, 0, 0, 0, 0⟩ : SV) : SV)])).set k (⟨7, 0, 0, (k : Nat), 0⟩ : SV))) :: (Sl (some ⟨b42, 0, none⟩) 1 50 107 SV.cells ([((⟨6, 0, 0, 0, 0⟩ : SV) : SV)])) :: (Cel b28 (SV.cells (⟨10, 0, 0, 0, N⟩ : SV)) 50) :: (Cel b1 #[.int .u8 kd, .int .u16 A, .int .i64 N] 29) :: L) rfl ?_
          intro w55 hs56
          refine ⟨Zqo, ?_⟩
          refine GoR.done (GoQ.blkN (GoQ.thn ?_))
          refine Zqt (.rd 0 (.rd 1 (.rd 2 .done))) ?_
          refine Zqk [(0, .gen []), (1, .as_ (.int .i64 ((k : Nat) + 1)) (.gen [])), (2, .gen [])] [(1, [.prop (Value.int .i64 (IntKind.i64.wrap ((k : Nat) + 1)) = Value.int .i64 ((k : Nat) + 1))])] [(10, .int .i64 ((k : Nat) + 1)), (9, vl ab53 0 ((q ++ ([((⟨6, 0, 0, 0, 0⟩ : SV) : SV)])).length) c51), (0, .int .i64 (m : Nat)), (2, .int .i64 un), (4, vp b1 0), (6, .slice none 0 0)] (ak (okp (i64ok (by omega) (by omega)) ok0) ak0) ?_
          refine GoR.done ?_
          have hs57 : St w0 ((Sl (some ⟨b42, 0, none⟩) 1 50 107 SV.cells ([((⟨6, 0, 0, 0, 0⟩ : SV) : SV)])) :: (Sl (some ⟨ab53, 0, none⟩) c51 50 107 SV.cells ((q ++ ([((⟨6, 0, 0, 0, 0⟩ : SV) : SV)])).set k (⟨7, 0, 0, (k : Nat), 0⟩ : SV))) :: (Cel b28 (SV.cells (⟨10, 0, 0, 0, N⟩ : SV)) 50) :: (Cel b1 #[.int .u8 kd, .int .u16 A, .int .i64 N] 29) :: L) w55 := ((((hs56.pull 3 rfl).pull 3 rfl).pull 2 rfl).pull 3 rfl)
          have hs58 : St w0 ((Sl (some ⟨ab53, 0, none⟩) c51 50 107 SV.cells ((q ++ ([((⟨6, 0, 0, 0, 0⟩ : SV) : SV)])).set k (⟨7, 0, 0, (k : Nat), 0⟩ : SV))) :: (Cel b28 (SV.cells (⟨10, 0, 0, 0, N⟩ : SV)) 50) :: (Cel b1 #[.int .u8 kd, .int .u16 A, .int .i64 N] 29) :: L) w55 := hs57.drop 1
          exact GoQ.back (k + 1, (q ++ ([((⟨6, 0, 0, 0, 0⟩ : SV) : SV)])).set k (⟨7, 0, 0, (k : Nat), 0⟩ : SV), some ⟨ab53, 0, none⟩, c51, (q ++ ([((⟨6, 0, 0, 0, 0⟩ : SV) : SV)])).length) [0, 2, 4, 6, 9, 10] (by kernel_rfl) (by show un.toNat - (k + 1) < un.toNat - k; omega) ⟨⟨by rw [set_last hp.2.1, rowA7 h52' (k + 1), twiceL_succ, ← rowA7 h52' k, ← hp.1], by simp only [List.length_set, List.length_append, List.length_cons, List.length_nil]; omega, by omega, fun _ => hxa.2, by first | rfl | (simp only [List.length_set])⟩, hs58⟩
        · have h52' : ¬ ((kd : Int) = 7) := ieqF h52
          refine GoC.skip (GoQ.blkN (GoQ.thn ?_))
          refine Zqt (.rd 0 (.rd 1 (.rd 2 .done))) ?_
          refine Zqk [(0, .gen []), (1, .as_ (.int .i64 ((k : Nat) + 1)) (.gen [])), (2, .gen [])] [(1, [.prop (Value.int .i64 (IntKind.i64.wrap ((k : Nat) + 1)) = Value.int .i64 ((k : Nat) + 1))])] [(10, .int .i64 ((k : Nat) + 1)), (9, .slice ad50 ((q ++ ([((⟨6, 0, 0, 0, 0⟩ : SV) : SV)])).length) c51), (0, .int .i64 (m : Nat)), (2, .int .i64 un), (4, vp b1 0), (6, .slice none 0 0)] (ak (okp (i64ok (by omega) (by omega)) ok0) ak0) ?_
          refine GoR.done ?_
          have hs59 : St w0 ((Sl (some ⟨b42, 0, none⟩) 1 50 107 SV.cells ([((⟨6, 0, 0, 0, 0⟩ : SV) : SV)])) :: (Sl ad50 c51 50 107 SV.cells (q ++ ([((⟨6, 0, 0, 0, 0⟩ : SV) : SV)]))) :: (Cel b28 (SV.cells (⟨10, 0, 0, 0, N⟩ : SV)) 50) :: (Cel b1 #[.int .u8 kd, .int .u16 A, .int .i64 N] 29) :: L) w47 := ((((hs48.pull 3 rfl).pull 3 rfl).pull 2 rfl).pull 3 rfl)
          have hs60 : St w0 ((Sl ad50 c51 50 107 SV.cells (q ++ ([((⟨6, 0, 0, 0, 0⟩ : SV) : SV)]))) :: (Cel b28 (SV.cells (⟨10, 0, 0, 0, N⟩ : SV)) 50) :: (Cel b1 #[.int .u8 kd, .int .u16 A, .int .i64 N] 29) :: L) w47 := hs59.drop 1
          exact GoQ.back (k + 1, q ++ ([((⟨6, 0, 0, 0, 0⟩ : SV) : SV)]), ad50, c51, (q ++ ([((⟨6, 0, 0, 0, 0⟩ : SV) : SV)])).length) [0, 2, 4, 6, 9, 10] (by kernel_rfl) (by show un.toNat - (k + 1) < un.toNat - k; omega) ⟨⟨by rw [rowA6 h52' (k + 1), loseL_succ, ← rowA6 h52' k, ← hp.1], by simp only [List.length_set, List.length_append, List.length_cons, List.length_nil]; omega, by omega, fun _ => hxa.2, by first | rfl | (simp only [List.length_set])⟩, hs60⟩
      · have hxa : ¬ ((k : Int) < un) ∨ (¬ kd = 6 ∧ ¬ kd = 7) := by
          have hz := h41
          simp only [Bool.and_eq_false_iff, Bool.or_eq_false_iff, decide_eq_false_iff_not, beq_eq_false_iff_ne, ne_eq] at hz
          omega
        refine GoC.exit (GoQ.skipC (GoQ.skipL (GoQ.hit (GoQ.thn (GoC.seq (GoC.seq ?_))))))
        refine Zqt (.rd 0 .done) ?_
        refine Zqk [(0, .gen [])] [] [(11, .int .i64 0), (0, .int .i64 (m : Nat)), (4, vp b1 0), (6, .slice none 0 0), (9, .slice adq q.length cq)] ak0 ?_
        refine GoR.done (GoQ.thn (GoC.block ?_))
        refine GoC.loop (T := Nat × (List SV) × (Option Addr) × Nat × Nat) (fun gg => [(0, .int .i64 (m : Nat)), (4, vp b1 0), (6, .slice none 0 0), (9, .slice gg.2.2.1 gg.2.2.2.2 gg.2.2.2.1), (11, .int .i64 (gg.1 : Nat))]) (fun gg w => (gg.2.1 = (if kd = 9 then turnR gg.1 else q) ∧ (kd = 9 → gg.2.1.length = gg.1) ∧ gg.1 ≤ 2 * m ∧ (0 < gg.1 → kd = 9) ∧ gg.2.2.2.2 = gg.2.1.length) ∧ St w0 ((Sl gg.2.2.1 gg.2.2.2.1 50 107 SV.cells gg.2.1) :: (Cel b28 (SV.cells (⟨10, 0, 0, 0, N⟩ : SV)) 50) :: (Cel b1 #[.int .u8 kd, .int .u16 A, .int .i64 N] 29) :: L) w) (fun gg => 2 * m - gg.1) (0, q, adq, cq, q.length) [0, 4, 6, 9, 11] (by kernel_rfl) ⟨⟨rowB_nil hp.2.1 hp.2.2.2.1, rowB_len hp.2.1 hp.2.2.2.1, Nat.zero_le _, fun h => absurd h (Nat.lt_irrefl _), rfl⟩, hs40⟩ ?_
        rintro ⟨i, qb, adqb, cqb, nqb⟩ w61 ⟨hpb0, hs62⟩
        have hpb : qb = (if kd = 9 then turnR i else q) ∧ (kd = 9 → qb.length = i) ∧ i ≤ 2 * m ∧ (0 < i → kd = 9) ∧ nqb = qb.length := hpb0
        have hs63 : St w0 ((Sl adqb cqb 50 107 SV.cells qb) :: (Cel b28 (SV.cells (⟨10, 0, 0, 0, N⟩ : SV)) 50) :: (Cel b1 #[.int .u8 kd, .int .u16 A, .int .i64 N] 29) :: L) w61 := hs62
        refine GoC.slots (S' := [(0, .int .i64 (m : Nat)), (4, vp b1 0), (6, .slice none 0 0), (9, .slice adqb nqb cqb), (11, .int .i64 (i : Nat))]) rfl ?_
        have hnqb : nqb = qb.length := by omega
        subst hnqb
        refine GoC.seq (GoC.seq ?_)
        refine GoC.join (T := Unit) (E := fun _ => [(78, .bool ((decide (((i : Nat) : Int) < (2 * (m : Nat)))) && ((kd : Int) == 9))), (0, .int .i64 (m : Nat)), (4, vp b1 0), (6, .slice none 0 0), (9, .slice adqb qb.length cqb), (11, .int .i64 (i : Nat))]) (F := fun _ w => St w0 ((Sl adqb cqb 50 107 SV.cells qb) :: (Cel b28 (SV.cells (⟨10, 0, 0, 0, N⟩ : SV)) 50) :: (Cel b1 #[.int .u8 kd, .int .u16 A, .int .i64 N] 29) :: L) w) ?_ ?_
        · refine Zqt (.rd 0 (.rd 1 (.rd 2 (.rd 3 (.rd 4 (.rd 5 (.rd 6 (.rd 7 (.rd 8 .done))))))))) ?_
          refine Zqk [(0, .gen []), (1, .gen []), (2, .as_ (.int .i64 (2 * (m : Nat))) (.gen [])), (3, .gen []), (4, .gen [])] [(2, [.prop (Value.int .i64 (IntKind.i64.wrap (2 * (m : Nat))) = Value.int .i64 (2 * (m : Nat)))])] [(74, .bool (decide (((i : Nat) : Int) < (2 * (m : Nat))))), (0, .int .i64 (m : Nat)), (4, vp b1 0), (6, .slice none 0 0), (9, .slice adqb qb.length cqb), (11, .int .i64 (i : Nat))] (ak (okp (i64ok (by omega) (by omega)) ok0) ak0) ?_
          rcases Bool.eq_false_or_eq_true (decide (((i : Nat) : Int) < (2 * (m : Nat)))) with h64 | h64
          · refine Zqs 74 true h64 ?_
            have h64' : ((i : Nat) : Int) < (2 * (m : Nat)) := of_decide_eq_true h64
            refine Zqk [(5, .gen []), (6, .gen [.int .u8 kd]), (7, .gen []), (8, .gen [])] [(6, [.cell ⟨b1, 0, none⟩ (.int .u8 kd)])] [(78, .bool ((kd : Int) == 9)), (0, .int .i64 (m : Nat)), (4, vp b1 0), (6, .slice none 0 0), (9, .slice adqb qb.length cqb), (11, .int .i64 (i : Nat))] (ak (okc (hs63.cell 2 rfl (by kernel_rfl)) ok0) ak0) ?_
            refine GoR.done ?_
            refine GoQ.pick [78, 0, 4, 6, 9, 11] (S' := [(78, .bool ((kd : Int) == 9)), (0, .int .i64 (m : Nat)), (4, vp b1 0), (6, .slice none 0 0), (9, .slice adqb qb.length cqb), (11, .int .i64 (i : Nat))]) (by kernel_rfl) ?_
            exact GoQ.meet1 () (by first | rfl | (simp only [h64, Bool.not_true, Bool.not_false, Bool.true_or, Bool.false_or, Bool.true_and, Bool.false_and, Bool.or_true, Bool.or_false, Bool.and_true, Bool.and_false]; done) | (simp [h64]; done)) hs63
          · refine Zqs 74 false h64 ?_
            have h64' : ¬ (((i : Nat) : Int) < (2 * (m : Nat))) := of_decide_eq_false h64
            refine Zqk [(5, .gen []), (6, .gen []), (7, .gen []), (8, .gen [])] [] [(78, .bool false), (0, .int .i64 (m : Nat)), (4, vp b1 0), (6, .slice none 0 0), (9, .slice adqb qb.length cqb), (11, .int .i64 (i : Nat))] ak0 ?_
            refine GoR.done ?_
            refine GoQ.pick [78, 0, 4, 6, 9, 11] (S' := [(78, .bool false), (0, .int .i64 (m : Nat)), (4, vp b1 0), (6, .slice none 0 0), (9, .slice adqb qb.length cqb), (11, .int .i64 (i : Nat))]) (by kernel_rfl) ?_
            exact GoQ.meet1 () (by first | rfl | (simp only [h64, Bool.not_true, Bool.not_false, Bool.true_or, Bool.false_or, Bool.true_and, Bool.false_and, Bool.or_true, Bool.or_false, Bool.and_true, Bool.and_false]; done) | (simp [h64]; done)) hs63
        intro _ w65 hs66
        refine GoQ.thn ?_
        refine Zqc (t := (decide (((i : Nat) : Int) < (2 * (m : Nat)))) && ((kd : Int) == 9)) (fun h67 => ?_) (fun h67 => ?_)
        · have h67a : (decide (((i : Nat) : Int) < (2 * (m : Nat)))) = true := (Bool.and_eq_true_iff.1 h67).1
          have h67a' : ((i : Nat) : Int) < (2 * (m : Nat)) := of_decide_eq_true h67a
          have h67b : ((kd : Int) == 9) = true := (Bool.and_eq_true_iff.1 h67).2
          have h67b' : (kd : Int) = 9 := ieqT h67b
          have hxb : ((i : Int) < 2 * (m : Int)) ∧ kd = 9 := by
            have hz := h67
            simp only [Bool.and_eq_true, Bool.or_eq_true, decide_eq_true_eq, beq_iff_eq] at hz
            omega
          refine GoC.skip (GoQ.thn (GoC.seq (GoC.block (GoC.seq ?_))))
          refine Zqt (.rd 0 (.rd 1 (.rd 2 (.rd 3 (.rd 4 (.ef 5 (.ef 6 (.rd 7 .done)))))))) ?_
          refine Zqk [(0, .gen []), (1, .gen []), (2, .div ((i : Nat) / 2)), (3, .as_ (.int .i64 (((i : Nat) / 2) + 1)) (.gen [])), (4, .gen [])] [(2, [.prop (IntKind.i64 = IntKind.i64 ∧ (2 : Int) ≠ 0 ∧ IntKind.i64.wrap (Int.tdiv (i : Nat) 2) = (i : Nat) / 2)]), (3, [.prop (Value.int .i64 (IntKind.i64.wrap (((i : Nat) / 2) + 1)) = Value.int .i64 (((i : Nat) / 2) + 1))])] [(85, .agg (SV.cells (⟨3, ((i : Nat) / 2) + 1, 0, 0, 0⟩ : SV))), (81, .slice adqb qb.length cqb), (0, .int .i64 (m : Nat)), (4, vp b1 0), (6, .slice none 0 0), (9, .slice adqb qb.length cqb), (11, .int .i64 (i : Nat))] (ak (okp ⟨rfl, by decide, by rw [Int.tdiv_eq_ediv_of_nonneg (by omega)]; exact i64w (by omega) (by omega)⟩ ok0) (ak (okp (i64ok (by omega) (by omega)) ok0) ak0)) ?_
          refine GoR.sliceLit rfl (by kernel_rfl) (t := 26) (e := 50) (n := 1) (ps := [(0, .agg (SV.cells (⟨3, ((i : Nat) / 2) + 1, 0, 0, 0⟩ : SV)))]) (by kernel_rfl) (by kernel_rfl) (ti := Tryz.t50) (z := svZ) (by kernel_rfl) (by kernel_rfl) (by decide) (by decide) (cs := SV.cells (⟨3, ((i : Nat) / 2) + 1, 0, 0, 0⟩ : SV)) (by kernel_rfl) hs66 ?_
          intro b68 w69 hs70 hz71
          have hs72 : St w0 ((Sl (some ⟨b68, 0, none⟩) 1 50 107 SV.cells ([((⟨3, ((i : Nat) / 2) + 1, 0, 0, 0⟩ : SV) : SV)])) :: (Sl adqb cqb 50 107 SV.cells qb) :: (Cel b28 (SV.cells (⟨10, 0, 0, 0, N⟩ : SV)) 50) :: (Cel b1 #[.int .u8 kd, .int .u16 A, .int .i64 N] 29) :: L) w69 := St.slOf (l := [((⟨3, ((i : Nat) / 2) + 1, 0, 0, 0⟩ : SV) : SV)]) (f := SV.cells) hs70 hz71 (svF).size (by simp only [List.length_cons, List.length_nil, maxLen]; omega) (by kernel_rfl)
          refine ⟨Zqo, ?_⟩
          have hs75 : St w0 ((Sl adqb cqb 50 107 SV.cells qb) :: (Sl (some ⟨b68, 0, none⟩) 1 50 107 SV.cells ([((⟨3, ((i : Nat) / 2) + 1, 0, 0, 0⟩ : SV) : SV)])) :: (Cel b28 (SV.cells (⟨10, 0, 0, 0, N⟩ : SV)) 50) :: (Cel b1 #[.int .u8 kd, .int .u16 A, .int .i64 N] 29) :: L) w69 := (hs72.pull 1 rfl)
          refine GoR.append rfl (by kernel_rfl) svsOK svF (ad := adqb) (c := cqb) (xs := qb) (ys := [((⟨3, ((i : Nat) / 2) + 1, 0, 0, 0⟩ : SV) : SV)]) (adx := some ⟨b68, 0, none⟩) (cx := 1) dSV (by kernel_rfl) hs75 (hs75.rows 1 rfl (svF).size dSV) (fun h => nomatch h) (by simp only [List.length_append, List.length_cons, List.length_nil]; omega) (by simp only [List.length_append, List.length_cons, List.length_nil]; omega) ?_
          intro ad76 c77 w73 hs74
          refine ⟨Zqo, ?_⟩
          refine Zqk [(7, .gen [])] [] [(9, .slice ad76 ((qb ++ ([((⟨3, ((i : Nat) / 2) + 1, 0, 0, 0⟩ : SV) : SV)])).length) c77), (0, .int .i64 (m : Nat)), (4, vp b1 0), (6, .slice none 0 0), (11, .int .i64 (i : Nat))] ak0 ?_
          refine GoR.done (GoQ.thn (GoC.seq ?_))
          refine Zqt (.rd 0 (.rd 1 (.rd 2 .done))) ?_
          refine Zqk [(0, .gen []), (1, .div ((i : Nat) % 2)), (2, .gen [])] [(1, [.prop (IntKind.i64 = IntKind.i64 ∧ (2 : Int) ≠ 0 ∧ Int.tmod (i : Nat) 2 = (i : Nat) % 2)])] [(90, .bool ((((i : Nat) % 2) : Int) == 1)), (9, .slice ad76 ((qb ++ ([((⟨3, ((i : Nat) / 2) + 1, 0, 0, 0⟩ : SV) : SV)])).length) c77), (0, .int .i64 (m : Nat)), (4, vp b1 0), (6, .slice none 0 0), (11, .int .i64 (i : Nat))] (ak (okp ⟨rfl, by decide, Int.tmod_eq_emod_of_nonneg (by first | omega | exact Int.natCast_nonneg _)⟩ ok0) ak0) ?_
          refine GoR.done (GoQ.thn ?_)
          refine Zqc (t := (((i : Nat) % 2) : Int) == 1) (fun h78 => ?_) (fun h78 => ?_)
          · have h78' : ((i : Nat) % 2 : Int) = 1 := ieqT h78
            have hql : qb.length = i := hpb.2.1 hxb.2
            have hlp : 0 < (qb ++ ([((⟨3, ((i : Nat) / 2) + 1, 0, 0, 0⟩ : SV) : SV)])).length := by simp only [List.length_append, List.length_cons, List.length_nil]; omega
            have hlk : i < (qb ++ ([((⟨3, ((i : Nat) / 2) + 1, 0, 0, 0⟩ : SV) : SV)])).length := by simp only [List.length_append, List.length_cons, List.length_nil]; omega
            obtain ⟨ab79, rfl⟩ := Sl.isSome (hs74.at_ 0 rfl) (by omega)
            refine Zqt (.rd 0 (.rd 1 (.rd 2 (.rd 3 (.ef 4 .done))))) ?_
            refine Zqk [(0, .gen []), (1, .gen []), (2, .as_ (vp ab79 (0 + (i * 107))) .at_), (3, .gen [])] [(2, [.prop (0 ≤ ((i : Nat) : Int) ∧ ((i : Nat) : Int) < (((qb ++ ([((⟨3, ((i : Nat) / 2) + 1, 0, 0, 0⟩ : SV) : SV)])).length : Nat) : Int)), .prop (Value.pointer (some (Addr.add ⟨ab79, 0, none⟩ (Int.toNat (i : Nat) * 107))) = Value.pointer (some ⟨ab79, 0 + (i * 107), none⟩))])] [(94, vp ab79 (0 + (i * 107))), (9, vl ab79 0 ((qb ++ ([((⟨3, ((i : Nat) / 2) + 1, 0, 0, 0⟩ : SV) : SV)])).length) c77), (0, .int .i64 (m : Nat)), (4, vp b1 0), (6, .slice none 0 0), (11, .int .i64 (i : Nat))] (ak (okp (by omega) (okp (ptrAdd _ _ _) ok0)) ak0) ?_
            refine GoR.storeSl rfl rfl (by kernel_rfl) (b := ab79) (off := 0 + (i * 107)) (v := .int .u8 4) (by kernel_rfl) (by kernel_rfl) (ti := Tryz.t5) (by kernel_rfl) hs74 0 (svF).size rfl (by kernel_rfl) (by kernel_rfl) (by rw [Nat.zero_add]; exact field_room (f := SV.cells) (size := 107) (l := qb ++ ([((⟨3, ((i : Nat) / 2) + 1, 0, 0, 0⟩ : SV) : SV)])) (k := i) (o := 0) (n := 1) (svF).size (by first | omega | (simp only [List.length_set]; omega) | (simp only [List.length_set, List.length_append, List.length_cons, List.length_nil]; omega)) (by decide)) (List.length_set ..) (xs' := (qb ++ ([((⟨3, ((i : Nat) / 2) + 1, 0, 0, 0⟩ : SV) : SV)])).set i (⟨4, ((qb ++ ([((⟨3, ((i : Nat) / 2) + 1, 0, 0, 0⟩ : SV) : SV)])).getD i dSV).who_, ((qb ++ ([((⟨3, ((i : Nat) / 2) + 1, 0, 0, 0⟩ : SV) : SV)])).getD i dSV).j_, ((qb ++ ([((⟨3, ((i : Nat) / 2) + 1, 0, 0, 0⟩ : SV) : SV)])).getD i dSV).k_, ((qb ++ ([((⟨3, ((i : Nat) / 2) + 1, 0, 0, 0⟩ : SV) : SV)])).getD i dSV).n_⟩ : SV)) (by rw [Nat.zero_add]; exact splice_field (f := SV.cells) (size := 107) (l := qb ++ ([((⟨3, ((i : Nat) / 2) + 1, 0, 0, 0⟩ : SV) : SV)])) (k := i) (o := 0) (svF).size (by first | omega | (simp only [List.length_set]; omega) | (simp only [List.length_set, List.length_append, List.length_cons, List.length_nil]; omega)) dSV (⟨4, ((qb ++ ([((⟨3, ((i : Nat) / 2) + 1, 0, 0, 0⟩ : SV) : SV)])).getD i dSV).who_, ((qb ++ ([((⟨3, ((i : Nat) / 2) + 1, 0, 0, 0⟩ : SV) : SV)])).getD i dSV).j_, ((qb ++ ([((⟨3, ((i : Nat) / 2) + 1, 0, 0, 0⟩ : SV) : SV)])).getD i dSV).k_, ((qb ++ ([((⟨3, ((i : Nat) / 2) + 1, 0, 0, 0⟩ : SV) : SV)])).getD i dSV).n_⟩ : SV) (Nat.le_of_ble_eq_true rfl) (by kernel_rfl)) (L' := (Sl (some ⟨ab79, 0, none⟩) c77 50 107 SV.cells ((qb ++ ([((⟨3, ((i : Nat) / 2) + 1, 0, 0, 0⟩ : SV) : SV)])).set i (⟨4, ((qb ++ ([((⟨3, ((i : Nat) / 2) + 1, 0, 0, 0⟩ : SV) : SV)])).getD i dSV).who_, ((qb ++ ([((⟨3, ((i : Nat) / 2) + 1, 0, 0, 0⟩ : SV) : SV)])).getD i dSV).j_, ((qb ++ ([((⟨3, ((i : Nat) / 2) + 1, 0, 0, 0⟩ : SV) : SV)])).getD i dSV).k_, ((qb ++ ([((⟨3, ((i : Nat) / 2) + 1, 0, 0, 0⟩ : SV) : SV)])).getD i dSV).n_⟩ : SV))) :: (Sl (some ⟨b68, 0, none⟩) 1 50 107 SV.cells ([((⟨3, ((i : Nat) / 2) + 1, 0, 0, 0⟩ : SV) : SV)])) :: (Cel b28 (SV.cells (⟨10, 0, 0, 0, N⟩ : SV)) 50) :: (Cel b1 #[.int .u8 kd, .int .u16 A, .int .i64 N] 29) :: L) rfl ?_
            intro w81 hs82
            refine ⟨Zqo, ?_⟩
            refine GoR.done (GoQ.blkN (GoQ.thn ?_))
            refine Zqt (.rd 0 (.rd 1 (.rd 2 .done))) ?_
            refine Zqk [(0, .gen []), (1, .as_ (.int .i64 ((i : Nat) + 1)) (.gen [])), (2, .gen [])] [(1, [.prop (Value.int .i64 (IntKind.i64.wrap ((i : Nat) + 1)) = Value.int .i64 ((i : Nat) + 1))])] [(11, .int .i64 ((i : Nat) + 1)), (9, vl ab79 0 ((qb ++ ([((⟨3, ((i : Nat) / 2) + 1, 0, 0, 0⟩ : SV) : SV)])).length) c77), (0, .int .i64 (m : Nat)), (4, vp b1 0), (6, .slice none 0 0)] (ak (okp (i64ok (by omega) (by omega)) ok0) ak0) ?_
            refine GoR.done ?_
            have hs83 : St w0 ((Sl (some ⟨b68, 0, none⟩) 1 50 107 SV.cells ([((⟨3, ((i : Nat) / 2) + 1, 0, 0, 0⟩ : SV) : SV)])) :: (Sl (some ⟨ab79, 0, none⟩) c77 50 107 SV.cells ((qb ++ ([((⟨3, ((i : Nat) / 2) + 1, 0, 0, 0⟩ : SV) : SV)])).set i (⟨4, ((qb ++ ([((⟨3, ((i : Nat) / 2) + 1, 0, 0, 0⟩ : SV) : SV)])).getD i dSV).who_, ((qb ++ ([((⟨3, ((i : Nat) / 2) + 1, 0, 0, 0⟩ : SV) : SV)])).getD i dSV).j_, ((qb ++ ([((⟨3, ((i : Nat) / 2) + 1, 0, 0, 0⟩ : SV) : SV)])).getD i dSV).k_, ((qb ++ ([((⟨3, ((i : Nat) / 2) + 1, 0, 0, 0⟩ : SV) : SV)])).getD i dSV).n_⟩ : SV))) :: (Cel b28 (SV.cells (⟨10, 0, 0, 0, N⟩ : SV)) 50) :: (Cel b1 #[.int .u8 kd, .int .u16 A, .int .i64 N] 29) :: L) w81 := ((((hs82.pull 3 rfl).pull 3 rfl).pull 2 rfl).pull 3 rfl)
            have hs84 : St w0 ((Sl (some ⟨ab79, 0, none⟩) c77 50 107 SV.cells ((qb ++ ([((⟨3, ((i : Nat) / 2) + 1, 0, 0, 0⟩ : SV) : SV)])).set i (⟨4, ((qb ++ ([((⟨3, ((i : Nat) / 2) + 1, 0, 0, 0⟩ : SV) : SV)])).getD i dSV).who_, ((qb ++ ([((⟨3, ((i : Nat) / 2) + 1, 0, 0, 0⟩ : SV) : SV)])).getD i dSV).j_, ((qb ++ ([((⟨3, ((i : Nat) / 2) + 1, 0, 0, 0⟩ : SV) : SV)])).getD i dSV).k_, ((qb ++ ([((⟨3, ((i : Nat) / 2) + 1, 0, 0, 0⟩ : SV) : SV)])).getD i dSV).n_⟩ : SV))) :: (Cel b28 (SV.cells (⟨10, 0, 0, 0, N⟩ : SV)) 50) :: (Cel b1 #[.int .u8 kd, .int .u16 A, .int .i64 N] 29) :: L) w81 := hs83.drop 1
            have hqb : qb = turnR i := hpb.1.trans (if_pos hxb.2)
            have hql : qb.length = i := hpb.2.1 hxb.2
            exact GoQ.back (i + 1, (qb ++ ([((⟨3, ((i : Nat) / 2) + 1, 0, 0, 0⟩ : SV) : SV)])).set i (⟨4, ((qb ++ ([((⟨3, ((i : Nat) / 2) + 1, 0, 0, 0⟩ : SV) : SV)])).getD i dSV).who_, ((qb ++ ([((⟨3, ((i : Nat) / 2) + 1, 0, 0, 0⟩ : SV) : SV)])).getD i dSV).j_, ((qb ++ ([((⟨3, ((i : Nat) / 2) + 1, 0, 0, 0⟩ : SV) : SV)])).getD i dSV).k_, ((qb ++ ([((⟨3, ((i : Nat) / 2) + 1, 0, 0, 0⟩ : SV) : SV)])).getD i dSV).n_⟩ : SV), some ⟨ab79, 0, none⟩, c77, (qb ++ ([((⟨3, ((i : Nat) / 2) + 1, 0, 0, 0⟩ : SV) : SV)])).length) [0, 4, 6, 9, 11] (by kernel_rfl) (by show 2 * m - (i + 1) < 2 * m - i; omega) ⟨⟨by rw [set_last hql, getD_last hql, if_pos hxb.2, turnR_succ, turn_odd (by omega), hqb], fun _ => by simp only [List.length_set, List.length_append, List.length_cons, List.length_nil]; omega, by omega, fun _ => hxb.2, by first | rfl | (simp only [List.length_set])⟩, hs84⟩
          · have h78' : ¬ (((i : Nat) % 2 : Int) = 1) := ieqF h78
            refine GoC.skip (GoQ.blkN (GoQ.thn ?_))
            refine Zqt (.rd 0 (.rd 1 (.rd 2 .done))) ?_
            refine Zqk [(0, .gen []), (1, .as_ (.int .i64 ((i : Nat) + 1)) (.gen [])), (2, .gen [])] [(1, [.prop (Value.int .i64 (IntKind.i64.wrap ((i : Nat) + 1)) = Value.int .i64 ((i : Nat) + 1))])] [(11, .int .i64 ((i : Nat) + 1)), (9, .slice ad76 ((qb ++ ([((⟨3, ((i : Nat) / 2) + 1, 0, 0, 0⟩ : SV) : SV)])).length) c77), (0, .int .i64 (m : Nat)), (4, vp b1 0), (6, .slice none 0 0)] (ak (okp (i64ok (by omega) (by omega)) ok0) ak0) ?_
            refine GoR.done ?_
            have hs85 : St w0 ((Sl (some ⟨b68, 0, none⟩) 1 50 107 SV.cells ([((⟨3, ((i : Nat) / 2) + 1, 0, 0, 0⟩ : SV) : SV)])) :: (Sl ad76 c77 50 107 SV.cells (qb ++ ([((⟨3, ((i : Nat) / 2) + 1, 0, 0, 0⟩ : SV) : SV)]))) :: (Cel b28 (SV.cells (⟨10, 0, 0, 0, N⟩ : SV)) 50) :: (Cel b1 #[.int .u8 kd, .int .u16 A, .int .i64 N] 29) :: L) w73 := ((((hs74.pull 3 rfl).pull 3 rfl).pull 2 rfl).pull 3 rfl)
            have hs86 : St w0 ((Sl ad76 c77 50 107 SV.cells (qb ++ ([((⟨3, ((i : Nat) / 2) + 1, 0, 0, 0⟩ : SV) : SV)]))) :: (Cel b28 (SV.cells (⟨10, 0, 0, 0, N⟩ : SV)) 50) :: (Cel b1 #[.int .u8 kd, .int .u16 A, .int .i64 N] 29) :: L) w73 := hs85.drop 1
            have hqb : qb = turnR i := hpb.1.trans (if_pos hxb.2)
            have hql : qb.length = i := hpb.2.1 hxb.2
            exact GoQ.back (i + 1, qb ++ ([((⟨3, ((i : Nat) / 2) + 1, 0, 0, 0⟩ : SV) : SV)]), ad76, c77, (qb ++ ([((⟨3, ((i : Nat) / 2) + 1, 0, 0, 0⟩ : SV) : SV)])).length) [0, 4, 6, 9, 11] (by kernel_rfl) (by show 2 * m - (i + 1) < 2 * m - i; omega) ⟨⟨by rw [if_pos hxb.2, turnR_succ, turn_even (by omega), hqb], fun _ => by simp only [List.length_set, List.length_append, List.length_cons, List.length_nil]; omega, by omega, fun _ => hxb.2, by first | rfl | (simp only [List.length_set])⟩, hs86⟩
        · have hxb : ¬ ((i : Int) < 2 * (m : Int)) ∨ ¬ kd = 9 := by
            have hz := h67
            simp only [Bool.and_eq_false_iff, Bool.or_eq_false_iff, decide_eq_false_iff_not, beq_eq_false_iff_ne, ne_eq] at hz
            omega
          refine GoC.exit (GoQ.skipC (GoQ.skipL (GoQ.hit (GoQ.thn (GoC.seq ?_)))))
          refine Zqt (.rd 0 (.rd 1 .done)) ?_
          refine Zqk [(0, .gen []), (1, .gen [])] [] [(6, .slice adqb qb.length cqb)] ak0 ?_
          refine GoR.done (GoQ.thn (GoC.ret ?_))
          refine Zq1 (v := .slice adqb qb.length cqb) ?_
          have hqe : qb = rowG kd m un := rowG_eq hp.1 hp.2.1 hp.2.2.1 hp.2.2.2.1 hxa hpb.1 hpb.2.2.1 hxb
          subst hqe
          have hs87 : St w0 ((Rd adqb 107 SV.cells dSV (rowG kd m un)) :: (Cel b28 (SV.cells (⟨10, 0, 0, 0, N⟩ : SV)) 50) :: (Cel b1 #[.int .u8 kd, .int .u16 A, .int .i64 N] 29) :: L) w65 := St.rdSl svF dSV hs66
          have hs88 : St w0 ((Cel b28 (SV.cells (⟨10, 0, 0, 0, N⟩ : SV)) 50) :: (Cel b1 #[.int .u8 kd, .int .u16 A, .int .i64 N] 29) :: (Rd adqb 107 SV.cells dSV (rowG kd m un)) :: L) w65 := (((hs87.pull 0 rfl).pull 2 rfl).pull 2 rfl)
          have hs89 : St w0 ((Rd adqb 107 SV.cells dSV (rowG kd m un)) :: L) w65 := hs88.drop 2
          exact ⟨adqb, cqb, rfl, hs89⟩
theorem stepsN_spec {w0 w : World} {L : List Asn} (n : Int) (un : Int) (kd : Int) (A : Int) (N : Int) (hodd : oddF n = false) (hkd : 0 ≤ kd ∧ kd ≤ 255) (hs : St w0 (L) w) : Calls Tryz.prog 6 #[.int .i64 n, .agg #[.int .u8 kd, .int .u16 A, .int .i64 N], .int .i64 un] w (Ret fun rv w' => ∃ (ao : Option Addr) (co : Nat), rv = .slice ao (([] : List SV).length) co ∧ St w0 ((Rd ao 107 SV.cells dSV ([] : List SV)) :: L) w') := by
  refine enter (args := [.int .i64 n, .agg #[.int .u8 kd, .int .u16 A, .int .i64 N], .int .i64 un]) Tryz.func6 rfl Tryz.ntmps6 (Nat.le_of_ble_eq_true (by kernel_rfl)) ?_
  refine GoC.slots (S' := [(0, .int .i64 n), (1, .agg #[.int .u8 kd, .int .u16 A, .int .i64 N]), (2, .int .i64 un)]) rfl ?_
  refine GoC.seq ?_
  refine Zqt (.ef 0 (.rd 1 .done)) ?_
  refine GoR.box rfl rfl (by kernel_rfl) (v := .agg #[.int .u8 kd, .int .u16 A, .int .i64 N]) (by kernel_rfl) hs (cs := #[.int .u8 kd, .int .u16 A, .int .i64 N]) (by kernel_rfl) ?_
  intro b1 w2 hs3
  refine ⟨Zqo, ?_⟩
  refine Zqk [(1, .gen [])] [] [(6, .slice none 0 0), (4, vp b1 0), (0, .int .i64 n), (2, .int .i64 un)] ak0 ?_
  refine GoR.done (GoQ.thn (GoC.seq (GoC.seq ?_)))
  refine Zqt (.rd 0 (.ef 1 (.rd 2 (.rd 3 (.rd 4 (.rd 5 (.rd 6 (.rd 7 (.rd 8 (.rd 9 (.rd 10 (.rd 11 (.rd 12 .done))))))))))))) ?_
  refine Zqk [(0, .gen [])] [] [(7, .int .i64 n), (6, .slice none 0 0), (4, vp b1 0), (0, .int .i64 n), (2, .int .i64 un)] ak0 ?_
  refine Zqa (f := 16) (args := #[.int .i64 n]) Tryz.call16 (oddF_spec n  hs3) ?_
  rintro v5 w6 ⟨rfl, hs4⟩
  refine ⟨Zqo, ?_⟩
  refine Zqk [(2, .gen []), (3, .gen [])] [] [(10, .bool (!(oddF n))), (6, .slice none 0 0), (4, vp b1 0), (0, .int .i64 n), (2, .int .i64 un)] ak0 ?_
  rcases Bool.eq_false_or_eq_true (!(oddF n)) with h7 | h7
  · refine Zqs 10 true h7 ?_
    have h7n : (oddF n) = false := notT h7
    refine Zqk [(4, .gen []), (5, .gen []), (6, .gen []), (7, .gen []), (8, .gen []), (9, .gen []), (10, .gen []), (11, .gen []), (12, .gen [])] [] [(19, .bool true), (6, .slice none 0 0), (4, vp b1 0), (0, .int .i64 n), (2, .int .i64 un)] ak0 ?_
    refine GoR.done (GoQ.thn (ZqT (GoC.seq ?_)))
    refine Zqt (.rd 0 .done) ?_
    refine Zqk [(0, .gen [])] [] [(6, .slice none 0 0), (4, vp b1 0), (0, .int .i64 n), (2, .int .i64 un)] ak0 ?_
    refine GoR.done (GoQ.thn (GoC.ret (GoQ.skipCR ?_)))
    refine Zq1 (v := .slice none 0 0) ?_
    have hs8 : St w0 ((Rd none 107 SV.cells dSV ([] : List SV)) :: (Cel b1 #[.int .u8 kd, .int .u16 A, .int .i64 N] 24) :: L) w6 := St.rdNil (size := 107) dSV hs4
    have hs9 : St w0 ((Cel b1 #[.int .u8 kd, .int .u16 A, .int .i64 N] 24) :: (Rd none 107 SV.cells dSV ([] : List SV)) :: L) w6 := ((hs8.pull 0 rfl).pull 1 rfl)
    have hs10 : St w0 ((Rd none 107 SV.cells dSV ([] : List SV)) :: L) w6 := hs9.drop 1
    exact ⟨none, 0, rfl, hs10⟩
  · refine Zqs 10 false h7 ?_
    have h7n : (oddF n) = true := notF h7
    exfalso
    have hx := h7
    rw [hodd] at hx
    simp at hx
theorem refN_spec {w0 w : World} {L : List Asn} (n : Int) (un : Int) (kd : Int) (A : Int) (N : Int) (hodd : oddF n = false) (hkd : 0 ≤ kd ∧ kd ≤ 255) (hs : St w0 (L) w) : Calls Tryz.prog 7 #[.int .i64 n, .agg #[.int .u8 kd, .int .u16 A, .int .i64 N], .int .i64 un] w (Ret fun rv w' => ∃ (ao : Option Addr) (co : Nat), rv = .slice ao (([] : List SV).length) co ∧ St w0 ((Rd ao 107 SV.cells dSV ([] : List SV)) :: L) w') := by
  refine enter (args := [.int .i64 n, .agg #[.int .u8 kd, .int .u16 A, .int .i64 N], .int .i64 un]) Tryz.func7 rfl Tryz.ntmps7 (Nat.le_of_ble_eq_true (by kernel_rfl)) ?_
  refine GoC.slots (S' := [(0, .int .i64 n), (1, .agg #[.int .u8 kd, .int .u16 A, .int .i64 N]), (2, .int .i64 un)]) rfl ?_
  refine GoC.seq ?_
  refine Zqt (.ef 0 (.rd 1 .done)) ?_
  refine GoR.box rfl rfl (by kernel_rfl) (v := .agg #[.int .u8 kd, .int .u16 A, .int .i64 N]) (by kernel_rfl) hs (cs := #[.int .u8 kd, .int .u16 A, .int .i64 N]) (by kernel_rfl) ?_
  intro b1 w2 hs3
  refine ⟨Zqo, ?_⟩
  refine Zqk [(1, .gen [])] [] [(6, .slice none 0 0), (4, vp b1 0), (0, .int .i64 n), (2, .int .i64 un)] ak0 ?_
  refine GoR.done (GoQ.thn (GoC.seq (GoC.seq ?_)))
  refine GoC.join (T := Unit) (E := fun _ => [(22, .bool (((decide ((n : Int) < 3)) || (decide ((n : Int) > 11))) || (((n % 2) : Int) == 0))), (6, .slice none 0 0), (4, vp b1 0), (0, .int .i64 n), (2, .int .i64 un)]) (F := fun _ w => St w0 ((Cel b1 #[.int .u8 kd, .int .u16 A, .int .i64 N] 29) :: L) w) ?_ ?_
  · refine Zqt (.rd 0 (.rd 1 (.rd 2 (.rd 3 (.rd 4 (.rd 5 (.rd 6 (.rd 7 (.rd 8 (.rd 9 (.rd 10 .done))))))))))) ?_
    refine Zqk [(0, .gen []), (1, .gen []), (2, .gen [])] [] [(14, .bool (decide ((n : Int) < 3))), (6, .slice none 0 0), (4, vp b1 0), (0, .int .i64 n), (2, .int .i64 un)] ak0 ?_
    rcases Bool.eq_false_or_eq_true (decide ((n : Int) < 3)) with h4 | h4
    · refine Zqs 14 true h4 ?_
      have h4' : (n : Int) < 3 := of_decide_eq_true h4
      refine Zqk [(3, .gen []), (4, .gen []), (5, .gen []), (6, .gen []), (7, .gen []), (8, .gen []), (9, .gen []), (10, .gen [])] [] [(22, .bool true), (6, .slice none 0 0), (4, vp b1 0), (0, .int .i64 n), (2, .int .i64 un)] ak0 ?_
      refine GoR.done ?_
      refine GoQ.pick [22, 6, 4, 0, 2] (S' := [(22, .bool true), (6, .slice none 0 0), (4, vp b1 0), (0, .int .i64 n), (2, .int .i64 un)]) (by kernel_rfl) ?_
      exact GoQ.meet1 () (by first | rfl | (simp only [h4, Bool.not_true, Bool.not_false, Bool.true_or, Bool.false_or, Bool.true_and, Bool.false_and, Bool.or_true, Bool.or_false, Bool.and_true, Bool.and_false]; done) | (simp [h4]; done)) hs3
    · refine Zqs 14 false h4 ?_
      have h4' : ¬ ((n : Int) < 3) := of_decide_eq_false h4
      refine Zqk [(3, .gen []), (4, .gen []), (5, .gen []), (6, .gen [])] [] [(18, .bool (decide ((n : Int) > 11))), (6, .slice none 0 0), (4, vp b1 0), (0, .int .i64 n), (2, .int .i64 un)] ak0 ?_
      rcases Bool.eq_false_or_eq_true (decide ((n : Int) > 11)) with h5 | h5
      · refine Zqs 18 true h5 ?_
        have h5' : (n : Int) > 11 := of_decide_eq_true h5
        refine Zqk [(7, .gen []), (8, .gen []), (9, .gen []), (10, .gen [])] [] [(22, .bool true), (6, .slice none 0 0), (4, vp b1 0), (0, .int .i64 n), (2, .int .i64 un)] ak0 ?_
        refine GoR.done ?_
        refine GoQ.pick [22, 6, 4, 0, 2] (S' := [(22, .bool true), (6, .slice none 0 0), (4, vp b1 0), (0, .int .i64 n), (2, .int .i64 un)]) (by kernel_rfl) ?_
        exact GoQ.meet1 () (by first | rfl | (simp only [h4, h5, Bool.not_true, Bool.not_false, Bool.true_or, Bool.false_or, Bool.true_and, Bool.false_and, Bool.or_true, Bool.or_false, Bool.and_true, Bool.and_false]; done) | (simp [h4, h5]; done)) hs3
      · refine Zqs 18 false h5 ?_
        have h5' : ¬ ((n : Int) > 11) := of_decide_eq_false h5
        refine Zqk [(7, .gen []), (8, .div (n % 2)), (9, .gen []), (10, .gen [])] [(8, [.prop (IntKind.i64 = IntKind.i64 ∧ (2 : Int) ≠ 0 ∧ Int.tmod n 2 = n % 2)])] [(22, .bool (((n % 2) : Int) == 0)), (6, .slice none 0 0), (4, vp b1 0), (0, .int .i64 n), (2, .int .i64 un)] (ak (okp ⟨rfl, by decide, Int.tmod_eq_emod_of_nonneg (by first | omega | exact Int.natCast_nonneg _)⟩ ok0) ak0) ?_
        refine GoR.done ?_
        refine GoQ.pick [22, 6, 4, 0, 2] (S' := [(22, .bool (((n % 2) : Int) == 0)), (6, .slice none 0 0), (4, vp b1 0), (0, .int .i64 n), (2, .int .i64 un)]) (by kernel_rfl) ?_
        exact GoQ.meet1 () (by first | rfl | (simp only [h4, h5, Bool.not_true, Bool.not_false, Bool.true_or, Bool.false_or, Bool.true_and, Bool.false_and, Bool.or_true, Bool.or_false, Bool.and_true, Bool.and_false]; done) | (simp [h4, h5]; done)) hs3
  intro _ w6 hs7
  refine GoQ.thn ?_
  refine Zqc (t := ((decide ((n : Int) < 3)) || (decide ((n : Int) > 11))) || (((n % 2) : Int) == 0)) (fun h8 => ?_) (fun h8 => ?_)
  · refine GoC.seq ?_
    refine Zqt (.rd 0 .done) ?_
    refine Zqk [(0, .gen [])] [] [(6, .slice none 0 0), (4, vp b1 0), (0, .int .i64 n), (2, .int .i64 un)] ak0 ?_
    refine GoR.done (GoQ.thn (GoC.ret (GoQ.skipCR ?_)))
    refine Zq1 (v := .slice none 0 0) ?_
    have hs9 : St w0 ((Rd none 107 SV.cells dSV ([] : List SV)) :: (Cel b1 #[.int .u8 kd, .int .u16 A, .int .i64 N] 29) :: L) w6 := St.rdNil (size := 107) dSV hs7
    have hs10 : St w0 ((Cel b1 #[.int .u8 kd, .int .u16 A, .int .i64 N] 29) :: (Rd none 107 SV.cells dSV ([] : List SV)) :: L) w6 := ((hs9.pull 0 rfl).pull 1 rfl)
    have hs11 : St w0 ((Rd none 107 SV.cells dSV ([] : List SV)) :: L) w6 := hs10.drop 1
    exact ⟨none, 0, rfl, hs11⟩
  · have h8a : ((decide ((n : Int) < 3)) || (decide ((n : Int) > 11))) = false := (Bool.or_eq_false_iff.1 h8).1
    have h8aa : (decide ((n : Int) < 3)) = false := (Bool.or_eq_false_iff.1 h8a).1
    have h8aa' : ¬ ((n : Int) < 3) := of_decide_eq_false h8aa
    have h8ab : (decide ((n : Int) > 11)) = false := (Bool.or_eq_false_iff.1 h8a).2
    have h8ab' : ¬ ((n : Int) > 11) := of_decide_eq_false h8ab
    have h8b : (((n % 2) : Int) == 0) = false := (Bool.or_eq_false_iff.1 h8).2
    have h8b' : ¬ ((n % 2 : Int) = 0) := ieqF h8b
    exfalso
    have hx := h8
    have hy := hodd
    unfold oddF at hy
    simp only [Bool.or_eq_false_iff, decide_eq_false_iff_not, beq_eq_false_iff_ne] at hx
    simp only [Bool.and_eq_false_iff, decide_eq_false_iff_not, beq_eq_false_iff_ne] at hy
    omega
theorem stepsO_spec {w0 w : World} {L : List Asn} (m : Nat) (un : Int) (kd : Int) (A : Int) (N : Int) (hm : 3 ≤ m ∧ m ≤ 11 ∧ m % 2 = 1) (hA : 0 ≤ A ∧ A ≤ 65535) (hw : 0 ≤ A % (m : Int) ∧ A % (m : Int) < 11) (hu : un ≤ 300) (hmm : 0 ≤ ((m : Nat) : Int) * ((m : Nat) : Int) ∧ ((m : Nat) : Int) * ((m : Nat) : Int) ≤ 121) (hk : kd = 0 ∨ 9 < kd) (hodd : oddF (m : Nat) = true) (hs : St w0 (L) w) : Calls Tryz.prog 6 #[.int .i64 (m : Nat), .agg #[.int .u8 kd, .int .u16 A, .int .i64 N], .int .i64 un] w (Ret fun rv w' => ∃ (ao : Option Addr) (co : Nat), rv = .slice ao (([] : List SV).length) co ∧ St w0 ((Rd ao 107 SV.cells dSV ([] : List SV)) :: L) w') := by
  refine enter (args := [.int .i64 (m : Nat), .agg #[.int .u8 kd, .int .u16 A, .int .i64 N], .int .i64 un]) Tryz.func6 rfl Tryz.ntmps6 (Nat.le_of_ble_eq_true (by kernel_rfl)) ?_
  refine GoC.slots (S' := [(0, .int .i64 (m : Nat)), (1, .agg #[.int .u8 kd, .int .u16 A, .int .i64 N]), (2, .int .i64 un)]) rfl ?_
  refine GoC.seq ?_
  refine Zqt (.ef 0 (.rd 1 .done)) ?_
  refine GoR.box rfl rfl (by kernel_rfl) (v := .agg #[.int .u8 kd, .int .u16 A, .int .i64 N]) (by kernel_rfl) hs (cs := #[.int .u8 kd, .int .u16 A, .int .i64 N]) (by kernel_rfl) ?_
  intro b1 w2 hs3
  refine ⟨Zqo, ?_⟩
  refine Zqk [(1, .gen [])] [] [(6, .slice none 0 0), (4, vp b1 0), (0, .int .i64 (m : Nat)), (2, .int .i64 un)] ak0 ?_
  refine GoR.done (GoQ.thn (GoC.seq (GoC.seq ?_)))
  refine Zqt (.rd 0 (.ef 1 (.rd 2 (.rd 3 (.rd 4 (.rd 5 (.rd 6 (.rd 7 (.rd 8 (.rd 9 (.rd 10 (.rd 11 (.rd 12 .done))))))))))))) ?_
  refine Zqk [(0, .gen [])] [] [(7, .int .i64 (m : Nat)), (6, .slice none 0 0), (4, vp b1 0), (0, .int .i64 (m : Nat)), (2, .int .i64 un)] ak0 ?_
  refine Zqa (f := 16) (args := #[.int .i64 (m : Nat)]) Tryz.call16 (oddF_spec (m : Nat)  hs3) ?_
  rintro v5 w6 ⟨rfl, hs4⟩
  refine ⟨Zqo, ?_⟩
  refine Zqk [(2, .gen []), (3, .gen [])] [] [(10, .bool (!(oddF (m : Nat)))), (6, .slice none 0 0), (4, vp b1 0), (0, .int .i64 (m : Nat)), (2, .int .i64 un)] ak0 ?_
  rcases Bool.eq_false_or_eq_true (!(oddF (m : Nat))) with h7 | h7
  · refine Zqs 10 true h7 ?_
    have h7n : (oddF (m : Nat)) = false := notT h7
    exfalso
    have hx := h7
    rw [hodd] at hx
    simp at hx
  · refine Zqs 10 false h7 ?_
    have h7n : (oddF (m : Nat)) = true := notF h7
    refine Zqk [(4, .gen []), (5, .gen [.int .u8 kd]), (6, .gen []), (7, .gen []), (8, .gen [])] [(5, [.cell ⟨b1, 0, none⟩ (.int .u8 kd)])] [(15, .bool (decide ((kd : Int) < 1))), (6, .slice none 0 0), (4, vp b1 0), (0, .int .i64 (m : Nat)), (2, .int .i64 un)] (ak (okc (hs4.cell 0 rfl (by kernel_rfl)) ok0) ak0) ?_
    rcases Bool.eq_false_or_eq_true (decide ((kd : Int) < 1)) with h8 | h8
    · refine Zqs 15 true h8 ?_
      have h8' : (kd : Int) < 1 := of_decide_eq_true h8
      refine Zqk [(9, .gen []), (10, .gen []), (11, .gen []), (12, .gen [])] [] [(19, .bool true), (6, .slice none 0 0), (4, vp b1 0), (0, .int .i64 (m : Nat)), (2, .int .i64 un)] ak0 ?_
      refine GoR.done (GoQ.thn (ZqT (GoC.seq ?_)))
      refine Zqt (.rd 0 .done) ?_
      refine Zqk [(0, .gen [])] [] [(6, .slice none 0 0), (4, vp b1 0), (0, .int .i64 (m : Nat)), (2, .int .i64 un)] ak0 ?_
      refine GoR.done (GoQ.thn (GoC.ret (GoQ.skipCR ?_)))
      refine Zq1 (v := .slice none 0 0) ?_
      have hs9 : St w0 ((Rd none 107 SV.cells dSV ([] : List SV)) :: (Cel b1 #[.int .u8 kd, .int .u16 A, .int .i64 N] 24) :: L) w6 := St.rdNil (size := 107) dSV hs4
      have hs10 : St w0 ((Cel b1 #[.int .u8 kd, .int .u16 A, .int .i64 N] 24) :: (Rd none 107 SV.cells dSV ([] : List SV)) :: L) w6 := ((hs9.pull 0 rfl).pull 1 rfl)
      have hs11 : St w0 ((Rd none 107 SV.cells dSV ([] : List SV)) :: L) w6 := hs10.drop 1
      exact ⟨none, 0, rfl, hs11⟩
    · refine Zqs 15 false h8 ?_
      have h8' : ¬ ((kd : Int) < 1) := of_decide_eq_false h8
      refine Zqk [(9, .gen []), (10, .gen [.int .u8 kd]), (11, .gen []), (12, .gen [])] [(10, [.cell ⟨b1, 0, none⟩ (.int .u8 kd)])] [(19, .bool (decide ((kd : Int) > 9))), (6, .slice none 0 0), (4, vp b1 0), (0, .int .i64 (m : Nat)), (2, .int .i64 un)] (ak (okc (hs4.cell 0 rfl (by kernel_rfl)) ok0) ak0) ?_
      refine GoR.done (GoQ.thn ?_)
      refine Zqc (t := decide ((kd : Int) > 9)) (fun h12 => ?_) (fun h12 => ?_)
      · have h12' : (kd : Int) > 9 := of_decide_eq_true h12
        refine GoC.seq ?_
        refine Zqt (.rd 0 .done) ?_
        refine Zqk [(0, .gen [])] [] [(6, .slice none 0 0), (4, vp b1 0), (0, .int .i64 (m : Nat)), (2, .int .i64 un)] ak0 ?_
        refine GoR.done (GoQ.thn (GoC.ret (GoQ.skipCR ?_)))
        refine Zq1 (v := .slice none 0 0) ?_
        have hs13 : St w0 ((Rd none 107 SV.cells dSV ([] : List SV)) :: (Cel b1 #[.int .u8 kd, .int .u16 A, .int .i64 N] 24) :: L) w6 := St.rdNil (size := 107) dSV hs4
        have hs14 : St w0 ((Cel b1 #[.int .u8 kd, .int .u16 A, .int .i64 N] 24) :: (Rd none 107 SV.cells dSV ([] : List SV)) :: L) w6 := ((hs13.pull 0 rfl).pull 1 rfl)
        have hs15 : St w0 ((Rd none 107 SV.cells dSV ([] : List SV)) :: L) w6 := hs14.drop 1
        exact ⟨none, 0, rfl, hs15⟩
      · have h12' : ¬ ((kd : Int) > 9) := of_decide_eq_false h12
        exfalso
        omega
end Go.Proofs.YtahmejhidelkbaaGreatDoor

/-! DsG -/
namespace Go.Proofs.YtahmejhidelkbaaGreatDoor
open Go.RowKit Go.Sx Go.Ev
set_option linter.unusedVariables false
set_option linter.unusedSimpArgs false
set_option linter.unnecessarySimpa false
set_option maxRecDepth 100000
theorem dstR_walk (W : World) (hW : Glob tabG W) (n un kd A N : Int) (Lx : List SV) (hLx : Lx.length ≤ 1000) (hu : un ≤ 300) (h1 : ∀ {w0 w : World} {L : List Asn}, St w0 L w → Calls Tryz.prog 6 #[.int .i64 n, .agg #[.int .u8 kd, .int .u16 A, .int .i64 N], .int .i64 un] w (Ret fun rv w' => ∃ (ao : Option Addr) (co : Nat), rv = .slice ao Lx.length co ∧ St w0 (Rd ao 107 SV.cells dSV Lx :: L) w')) (h2 : ∀ {w0 w : World} {L : List Asn}, St w0 L w → Calls Tryz.prog 7 #[.int .i64 n, .agg #[.int .u8 kd, .int .u16 A, .int .i64 N], .int .i64 un] w (Ret fun rv w' => ∃ (ao : Option Addr) (co : Nat), rv = .slice ao Lx.length co ∧ St w0 (Rd ao 107 SV.cells dSV Lx :: L) w')) : Calls Tryz.prog 3 #[.int .i64 n, .agg #[.int .u8 kd, .int .u16 A, .int .i64 N], .int .i64 un] W (Ret fun rv w' => rv = .bool true ∧ Below W.heap.size W w') := by
  refine enter (args := [.int .i64 n, .agg #[.int .u8 kd, .int .u16 A, .int .i64 N], .int .i64 un]) Tryz.func3 rfl Tryz.ntmps3 (Nat.le_of_ble_eq_true (by kernel_rfl)) ?_
  refine GoC.slots (S' := [(0, .int .i64 n), (1, .agg #[.int .u8 kd, .int .u16 A, .int .i64 N]), (2, .int .i64 un)]) rfl ?_
  refine GoC.seq ?_
  refine Zqt (.ef 0 (.rd 1 .done)) ?_
  refine GoR.box rfl rfl (by kernel_rfl) (v := .agg #[.int .u8 kd, .int .u16 A, .int .i64 N]) (by kernel_rfl) (St.start W) (cs := #[.int .u8 kd, .int .u16 A, .int .i64 N]) (by kernel_rfl) ?_
  intro b1 w2 hs3
  refine ⟨Zqo, ?_⟩
  refine Zqk [(1, .gen [])] [] [(6, .bool false), (4, vp b1 0), (0, .int .i64 n), (2, .int .i64 un)] ak0 ?_
  refine GoR.done (GoQ.thn (GoC.seq (GoC.seq ?_)))
  refine Zqt (.rd 0 (.rd 1 .done)) ?_
  refine Zqk [(0, .gen []), (1, .gen [])] [] [(11, .bool (decide ((un : Int) > 300))), (6, .bool false), (4, vp b1 0), (0, .int .i64 n), (2, .int .i64 un)] ak0 ?_
  refine GoR.done (GoQ.thn ?_)
  refine Zqc (t := decide ((un : Int) > 300)) (fun h4 => ?_) (fun h4 => ?_)
  · have h4' : (un : Int) > 300 := of_decide_eq_true h4
    exfalso; omega
  · have h4' : ¬ ((un : Int) > 300) := of_decide_eq_false h4
    refine GoC.skip (GoQ.thn (GoC.seq ?_))
    refine Zqt (.rd 0 (.rd 1 (.rd 2 (.ef 3 (.rd 4 .done))))) ?_
    refine Zqk [(0, .gen []), (1, .agg #[.int .u8 kd, .int .u16 A, .int .i64 N]), (2, .gen [])] [(1, [.prop (Array.size (#[.int .u8 kd, .int .u16 A, .int .i64 N] : Array Value) = 3), .cells ⟨b1, 0, none⟩ #[.int .u8 kd, .int .u16 A, .int .i64 N]])] [(15, .int .i64 un), (14, .agg #[.int .u8 kd, .int .u16 A, .int .i64 N]), (13, .int .i64 n), (6, .bool false), (4, vp b1 0), (0, .int .i64 n), (2, .int .i64 un)] (ak (okp (by kernel_rfl) (oka (hs3.cells 0 0 rfl (by kernel_rfl)) ok0)) ak0) ?_
    refine Zqa (f := 6) (args := #[.int .i64 n, .agg #[.int .u8 kd, .int .u16 A, .int .i64 N], .int .i64 un]) Tryz.call6 (h1 hs3) ?_
    rintro v8 w9 ⟨ao5, co6, rfl, hs7⟩
    refine ⟨Zqo, ?_⟩
    refine Zqk [(4, .gen [])] [] [(7, .slice ao5 Lx.length co6), (6, .bool false), (4, vp b1 0), (0, .int .i64 n), (2, .int .i64 un)] ak0 ?_
    refine GoR.done (GoQ.thn (GoC.seq ?_))
    refine Zqt (.rd 0 (.rd 1 (.rd 2 (.ef 3 (.rd 4 .done))))) ?_
    refine Zqk [(0, .gen []), (1, .agg #[.int .u8 kd, .int .u16 A, .int .i64 N]), (2, .gen [])] [(1, [.prop (Array.size (#[.int .u8 kd, .int .u16 A, .int .i64 N] : Array Value) = 3), .cells ⟨b1, 0, none⟩ #[.int .u8 kd, .int .u16 A, .int .i64 N]])] [(19, .int .i64 un), (18, .agg #[.int .u8 kd, .int .u16 A, .int .i64 N]), (17, .int .i64 n), (7, .slice ao5 Lx.length co6), (6, .bool false)] (ak (okp (by kernel_rfl) (oka (hs7.cells 1 0 rfl (by kernel_rfl)) ok0)) ak0) ?_
    refine Zqa (f := 7) (args := #[.int .i64 n, .agg #[.int .u8 kd, .int .u16 A, .int .i64 N], .int .i64 un]) Tryz.call7 (h2 hs7) ?_
    rintro v13 w14 ⟨ao10, co11, rfl, hs12⟩
    refine ⟨Zqo, ?_⟩
    refine Zqk [(4, .gen [])] [] [(8, .slice ao10 Lx.length co11), (7, .slice ao5 Lx.length co6), (6, .bool false)] ak0 ?_
    refine GoR.done (GoQ.thn (GoC.seq (GoC.seq ?_)))
    refine Zqt (.rd 0 (.rd 1 (.rd 2 (.rd 3 (.rd 4 .done))))) ?_
    refine Zqk [(0, .gen []), (1, .gen []), (2, .gen []), (3, .gen []), (4, .as_ (.bool false) (.gen []))] [(4, [.prop (Value.bool (((Lx.length : Nat) : Int) != (Lx.length : Nat)) = Value.bool false)])] [(25, .bool false), (8, .slice ao10 Lx.length co11), (7, .slice ao5 Lx.length co6), (6, .bool false)] (ak (okp (by simp) ok0) ak0) ?_
    refine GoR.done (GoQ.thn (ZqF (GoC.skip (GoQ.thn (GoC.seq (GoC.seq ?_))))))
    refine Zqt (.rd 0 .done) ?_
    refine Zqk [(0, .gen [])] [] [(9, .int .i64 0), (8, .slice ao10 Lx.length co11), (7, .slice ao5 Lx.length co6), (6, .bool false)] ak0 ?_
    refine GoR.done (GoQ.thn (GoC.block ?_))
    have hs15 : St W ((Cel b1 #[.int .u8 kd, .int .u16 A, .int .i64 N] 24) :: (Rd ao10 107 SV.cells dSV Lx) :: (Rd ao5 107 SV.cells dSV Lx) :: (Base W) :: []) w14 := ((((hs12.pull 3 rfl).pull 2 rfl).pull 2 rfl).pull 3 rfl)
    have hs16 : St W ((Rd ao10 107 SV.cells dSV Lx) :: (Rd ao5 107 SV.cells dSV Lx) :: (Base W) :: []) w14 := hs15.drop 1
    refine GoC.loop (T := Nat) (fun gg => [(7, .slice ao5 Lx.length co6), (8, .slice ao10 Lx.length co11), (9, .int .i64 (gg : Nat))]) (fun gg w => (gg ≤ (Lx).length) ∧ St W ((Rd ao10 107 SV.cells dSV Lx) :: (Rd ao5 107 SV.cells dSV Lx) :: (Base W) :: []) w) (fun gg => (Lx).length - gg) 0 [7, 8, 9] (by kernel_rfl) ⟨Nat.zero_le _, hs16⟩ ?_
    rintro z w17 ⟨hz0, hs18⟩
    have hz : z ≤ (Lx).length := hz0
    have hs19 : St W ((Rd ao10 107 SV.cells dSV Lx) :: (Rd ao5 107 SV.cells dSV Lx) :: (Base W) :: []) w17 := hs18
    refine GoC.slots (S' := [(7, .slice ao5 Lx.length co6), (8, .slice ao10 Lx.length co11), (9, .int .i64 (z : Nat))]) rfl ?_
    refine GoC.seq (GoC.seq ?_)
    refine Zqt (.rd 0 (.rd 1 (.rd 2 (.rd 3 .done)))) ?_
    refine Zqk [(0, .gen []), (1, .gen []), (2, .gen []), (3, .gen [])] [] [(29, .bool (decide (((z : Nat) : Int) < (Lx.length : Nat)))), (7, .slice ao5 Lx.length co6), (8, .slice ao10 Lx.length co11), (9, .int .i64 (z : Nat))] ak0 ?_
    refine GoR.done (GoQ.thn ?_)
    refine Zqc (t := decide (((z : Nat) : Int) < (Lx.length : Nat))) (fun h20 => ?_) (fun h20 => ?_)
    · have h20' : ((z : Nat) : Int) < (Lx.length : Nat) := of_decide_eq_true h20
      obtain ⟨ab21, ao22, rfl⟩ := RowsAt.isSome (rd_rows hs19 1 rfl) (by omega)
      obtain ⟨ab23, ao24, rfl⟩ := RowsAt.isSome (rd_rows hs19 0 rfl) (by omega)
      refine GoC.skip (GoQ.thn (GoC.seq (GoC.block (GoC.seq ?_))))
      refine GoC.regD [0, 0, 3, 7, 0, 0, 48, 112, 255, 511] (.rd 0 (.rd 1 (.rd 2 (.rd 3 (.rd 4 (.rd 5 (.rd 6 (.rd 7 (.ef 8 (.rd 9 .done)))))))))) (by kernel_rfl) (by kernel_rfl) noPan_body (by kernel_rfl) hs19 ?_
      intro w25 hs26 hw27
      refine Zqk [(0, .gen []), (1, .gen []), (2, .as_ (vp ab21 (ao22 + (z * 107))) .at_), (3, .agg (SV.cells (Lx.getD z dSV))), (4, .gen []), (5, .gen []), (6, .as_ (vp ab23 (ao24 + (z * 107))) .at_), (7, .agg (SV.cells (Lx.getD z dSV)))] [(2, [.prop (0 ≤ ((z : Nat) : Int) ∧ ((z : Nat) : Int) < ((Lx.length : Nat) : Int)), .prop (Value.pointer (some (Addr.add ⟨ab21, ao22, none⟩ (Int.toNat (z : Nat) * 107))) = Value.pointer (some ⟨ab21, ao22 + (z * 107), none⟩))]), (3, [.prop (Array.size (SV.cells (Lx.getD z dSV)) = 107), .cells ⟨ab21, ao22 + (z * 107), none⟩ (SV.cells (Lx.getD z dSV))]), (6, [.prop (0 ≤ ((z : Nat) : Int) ∧ ((z : Nat) : Int) < ((Lx.length : Nat) : Int)), .prop (Value.pointer (some (Addr.add ⟨ab23, ao24, none⟩ (Int.toNat (z : Nat) * 107))) = Value.pointer (some ⟨ab23, ao24 + (z * 107), none⟩))]), (7, [.prop (Array.size (SV.cells (Lx.getD z dSV)) = 107), .cells ⟨ab23, ao24 + (z * 107), none⟩ (SV.cells (Lx.getD z dSV))])] [(39, .agg (SV.cells (Lx.getD z dSV))), (35, .agg (SV.cells (Lx.getD z dSV))), (7, vl ab21 ao22 Lx.length co6), (8, vl ab23 ao24 Lx.length co11), (9, .int .i64 (z : Nat))] (ak (okp (by omega) (okp (ptrAdd _ _ _) ok0)) (ak (okp (by kernel_rfl) (oka (RowsAt.all0 (rd_rows hs26 1 rfl) (by first | omega | (simp only [List.length_set]; omega) | (simp only [List.length_set, List.length_append, List.length_cons, List.length_nil]; omega)) (Nat.le_of_ble_eq_true (by kernel_rfl)) (by kernel_rfl)) ok0)) (ak (okp (by omega) (okp (ptrAdd _ _ _) ok0)) (ak (okp (by kernel_rfl) (oka (RowsAt.all0 (rd_rows hs26 0 rfl) (by first | omega | (simp only [List.length_set]; omega) | (simp only [List.length_set, List.length_append, List.length_cons, List.length_nil]; omega)) (Nat.le_of_ble_eq_true (by kernel_rfl)) (by kernel_rfl)) ok0)) ak0)))) ?_
      refine Zqa (f := 8) (args := #[.agg (SV.cells (Lx.getD z dSV)), .agg (SV.cells (Lx.getD z dSV))]) Tryz.call8 (same_spec (Lx.getD z dSV) hs26) ?_
      rintro v29 w30 ⟨rfl, hs28⟩
      refine ⟨Zqo, ?_⟩
      refine Zqk [(9, .gen [])] [] [(41, .bool false), (7, vl ab21 ao22 Lx.length co6), (8, vl ab23 ao24 Lx.length co11), (9, .int .i64 (z : Nat))] ak0 ?_
      refine GoR.done (GoQ.thn (ZqF (GoC.skip (GoQ.blkN (GoQ.thn ?_)))))
      refine Zqt (.rd 0 (.rd 1 (.rd 2 .done))) ?_
      refine Zqk [(0, .gen []), (1, .as_ (.int .i64 ((z : Nat) + 1)) (.gen [])), (2, .gen [])] [(1, [.prop (Value.int .i64 (IntKind.i64.wrap ((z : Nat) + 1)) = Value.int .i64 ((z : Nat) + 1))])] [(9, .int .i64 ((z : Nat) + 1)), (7, vl ab21 ao22 Lx.length co6), (8, vl ab23 ao24 Lx.length co11)] (ak (okp (i64ok (by omega) (by omega)) ok0) ak0) ?_
      refine GoR.done ?_
      exact GoQ.back (z + 1) [7, 8, 9] (by kernel_rfl) (by show (Lx).length - (z + 1) < (Lx).length - z; omega) ⟨by omega, hs28⟩
    · have h20' : ¬ (((z : Nat) : Int) < (Lx.length : Nat)) := of_decide_eq_false h20
      refine GoC.exit (GoQ.skipC (GoQ.skipL (GoQ.hit (GoQ.thn (GoC.seq ?_)))))
      refine Zqt (.ef 0 (.rd 1 .done)) ?_
      refine Zqa (f := 5) (args := #[]) Tryz.call5 (drworks_spec (gok_base hW (by simp)) hs19) ?_
      rintro v32 w33 ⟨rfl, hs31⟩
      refine ⟨Zqo, ?_⟩
      refine Zqk [(1, .gen [])] [] [(6, .bool true)] ak0 ?_
      refine GoR.done (GoQ.thn (GoC.ret ?_))
      refine Zq1 (v := .bool true) ?_
      exact ⟨rfl, hs31.below 2 rfl⟩
theorem dstB_walk (W : World) (hW : Glob tabG W) (n un kd A N : Int) (hbig : decide ((un : Int) > 300) = true) : Calls Tryz.prog 3 #[.int .i64 n, .agg #[.int .u8 kd, .int .u16 A, .int .i64 N], .int .i64 un] W (Ret fun rv w' => rv = .bool true ∧ Below W.heap.size W w') := by
  refine enter (args := [.int .i64 n, .agg #[.int .u8 kd, .int .u16 A, .int .i64 N], .int .i64 un]) Tryz.func3 rfl Tryz.ntmps3 (Nat.le_of_ble_eq_true (by kernel_rfl)) ?_
  refine GoC.slots (S' := [(0, .int .i64 n), (1, .agg #[.int .u8 kd, .int .u16 A, .int .i64 N]), (2, .int .i64 un)]) rfl ?_
  refine GoC.seq ?_
  refine Zqt (.ef 0 (.rd 1 .done)) ?_
  refine GoR.box rfl rfl (by kernel_rfl) (v := .agg #[.int .u8 kd, .int .u16 A, .int .i64 N]) (by kernel_rfl) (St.start W) (cs := #[.int .u8 kd, .int .u16 A, .int .i64 N]) (by kernel_rfl) ?_
  intro b1 w2 hs3
  refine ⟨Zqo, ?_⟩
  refine Zqk [(1, .gen [])] [] [(6, .bool false), (4, vp b1 0), (0, .int .i64 n), (2, .int .i64 un)] ak0 ?_
  refine GoR.done (GoQ.thn (GoC.seq (GoC.seq ?_)))
  refine Zqt (.rd 0 (.rd 1 .done)) ?_
  refine Zqk [(0, .gen []), (1, .gen [])] [] [(11, .bool (decide ((un : Int) > 300))), (6, .bool false), (4, vp b1 0), (0, .int .i64 n), (2, .int .i64 un)] ak0 ?_
  refine GoR.done (GoQ.thn ?_)
  refine Zqc (t := decide ((un : Int) > 300)) (fun _ => ?_) (fun hc => absurd (hbig.symm.trans hc) (by decide))
  refine GoC.seq ?_
  refine Zqt (.ef 0 (.rd 1 .done)) ?_
  refine Zqa (f := 5) (args := #[]) Tryz.call5 (drworks_spec (gok_base hW (by simp)) hs3) ?_
  rintro v5 w6 ⟨rfl, hs4⟩
  refine ⟨Zqo, ?_⟩
  refine Zqk [(1, .gen [])] [] [(6, .bool true), (4, vp b1 0), (0, .int .i64 n), (2, .int .i64 un)] ak0 ?_
  refine GoR.done (GoQ.thn (GoC.ret (GoQ.skipCR ?_)))
  refine Zq1 (v := .bool true) ?_
  exact ⟨rfl, hs4.below 1 rfl⟩
theorem cutsR_length (A : Int) (m : Nat) : ∀ p, (cutsR A m p).length ≤ p
  | 0 => Nat.le_refl _
  | p + 1 => by
    rw [cutsR_succ, List.length_append]
    have h := cutsR_length A m p
    have h2 : (cutAt A m p).length ≤ 1 := by unfold cutAt; split <;> simp
    omega
theorem cutsL_len {A : Int} {m : Nat} (h : ((m : Nat) : Int) * ((m : Nat) : Int) ≤ 121) : (cutsL A m).length ≤ 1000 := by
  have h1 := cutsR_length A m (m * m)
  have h2 : ((m * m : Nat) : Int) = ((m : Nat) : Int) * ((m : Nat) : Int) := Int.natCast_mul m m
  unfold cutsL
  omega
theorem odd_name {n : Int} (h : oddF n = true) : ∃ m : Nat, n = (m : Int) ∧ (3 ≤ m ∧ m ≤ 11 ∧ m % 2 = 1) := by
  unfold oddF at h
  simp only [Bool.and_eq_true, decide_eq_true_eq, beq_iff_eq] at h
  exact ⟨n.toNat, by omega, by omega, by omega, by omega⟩
theorem drillSteps_walk (W : World) (hW : Glob tabG W) (n un kd A N : Int) (hkd : 0 ≤ kd ∧ kd ≤ 255) (hA : 0 ≤ A ∧ A ≤ 65535) : Calls Tryz.prog 3 #[.int .i64 n, .agg #[.int .u8 kd, .int .u16 A, .int .i64 N], .int .i64 un] W (Ret fun rv w' => rv = .bool true ∧ Below W.heap.size W w') := by
  by_cases hb : un > 300
  · exact dstB_walk W hW n un kd A N (decide_eq_true hb)
  have hu : un ≤ 300 := by omega
  cases hodd : oddF n with
  | false => exact dstR_walk W hW n un kd A N [] (Nat.zero_le _) hu (fun hs => stepsN_spec n un kd A N hodd hkd hs) (fun hs => refN_spec n un kd A N hodd hkd hs)
  | true =>
    obtain ⟨m, rfl, hm⟩ := odd_name hodd
    have hm2 : 3 ≤ m ∧ m ≤ 11 := ⟨hm.1, hm.2.1⟩
    have hw : 0 ≤ A % (m : Int) ∧ A % (m : Int) < 11 := ⟨Int.emod_nonneg _ (by omega), Int.lt_of_lt_of_le (Int.emod_lt_of_pos _ (by omega)) (by omega)⟩
    have hmm := mm_bounds (m := m) (by omega)
    by_cases hk : kd = 0 ∨ 9 < kd
    · exact dstR_walk W hW m un kd A N [] (Nat.zero_le _) hu (fun hs => stepsO_spec m un kd A N hm hA hw hu hmm hk hodd hs) (fun hs => by have h := refG_spec m un kd A N hm hA hw hu hmm (by omega) hs; rw [rowG_0 hk] at h; exact h)
    have : kd = 1 ∨ kd = 2 ∨ kd = 3 ∨ kd = 4 ∨ kd = 5 ∨ kd = 6 ∨ kd = 7 ∨ kd = 8 ∨ kd = 9 := by omega
    rcases this with rfl | rfl | rfl | rfl | rfl | rfl | rfl | rfl | rfl
    · exact dstR_walk W hW m un 1 A N (cutsL A m) (cutsL_len hmm.2) hu (fun hs => stepsG_spec m un 1 A N 38 (cutsL A m) (by decide) hodd (by kernel_rfl) Tryz.call38 (fun hs => kind1_spec m un 1 A N hm2 hA hw hu hs) hs) (fun hs => ref1_spec m un A N hm hA hw hu hmm hs)
    · exact dstR_walk W hW m un 2 A N ([(⟨9, 0, 0, 0, 0⟩ : SV)]) (Nat.le_of_ble_eq_true rfl) hu (fun hs => stepsG_spec m un 2 A N 39 ([(⟨9, 0, 0, 0, 0⟩ : SV)]) (by decide) hodd (by kernel_rfl) Tryz.call39 (fun hs => kind2_spec m un 2 A N hm2 hA hw hu hs) hs) (fun hs => refS_spec m un 2 A N (⟨9, 0, 0, 0, 0⟩ : SV) hm hA hw (fun hs => single2_spec A N _ hs) hs)
    · exact dstR_walk W hW m un 3 A N ([(⟨12, A % (m : Int) + 1, 0, 0, 0⟩ : SV)]) (Nat.le_of_ble_eq_true rfl) hu (fun hs => stepsG_spec m un 3 A N 41 ([(⟨12, A % (m : Int) + 1, 0, 0, 0⟩ : SV)]) (by decide) hodd (by kernel_rfl) Tryz.call41 (fun hs => kind3_spec m un 3 A N hm2 hA hw hu hs) hs) (fun hs => refS_spec m un 3 A N (⟨12, A % (m : Int) + 1, 0, 0, 0⟩ : SV) hm hA hw (fun hs => single3_spec A N _ hs) hs)
    · exact dstR_walk W hW m un 4 A N ([(⟨13, A % (m : Int) + 1, 0, 0, 0⟩ : SV)]) (Nat.le_of_ble_eq_true rfl) hu (fun hs => stepsG_spec m un 4 A N 43 ([(⟨13, A % (m : Int) + 1, 0, 0, 0⟩ : SV)]) (by decide) hodd (by kernel_rfl) Tryz.call43 (fun hs => kind4_spec m un 4 A N hm2 hA hw hu hs) hs) (fun hs => refS_spec m un 4 A N (⟨13, A % (m : Int) + 1, 0, 0, 0⟩ : SV) hm hA hw (fun hs => single4_spec A N _ hs) hs)
    · exact dstR_walk W hW m un 5 A N ([(⟨11, A % (m : Int) + 1, 0, 0, N⟩ : SV)]) (Nat.le_of_ble_eq_true rfl) hu (fun hs => stepsG_spec m un 5 A N 44 ([(⟨11, A % (m : Int) + 1, 0, 0, N⟩ : SV)]) (by decide) hodd (by kernel_rfl) Tryz.call44 (fun hs => kind5_spec m un 5 A N hm2 hA hw hu hs) hs) (fun hs => refS_spec m un 5 A N (⟨11, A % (m : Int) + 1, 0, 0, N⟩ : SV) hm hA hw (fun hs => single5_spec A N _ hs) hs)
    · exact dstR_walk W hW m un 6 A N (loseL un.toNat) (by rw [loseL_length]; omega) hu (fun hs => stepsG_spec m un 6 A N 45 (loseL un.toNat) (by decide) hodd (by kernel_rfl) Tryz.call45 (fun hs => kind6_spec m un 6 A N hm2 hA hw hu hs) hs) (fun hs => by have h := refG_spec m un 6 A N hm hA hw hu hmm (by decide) hs; rw [rowG_6] at h; exact h)
    · exact dstR_walk W hW m un 7 A N (twiceL un.toNat) (by rw [twiceL_length]; omega) hu (fun hs => stepsG_spec m un 7 A N 47 (twiceL un.toNat) (by decide) hodd (by kernel_rfl) Tryz.call47 (fun hs => kind7_spec m un 7 A N hm2 hA hw hu hs) hs) (fun hs => by have h := refG_spec m un 7 A N hm hA hw hu hmm (by decide) hs; rw [rowG_7] at h; exact h)
    · exact dstR_walk W hW m un 8 A N ([(⟨10, 0, 0, 0, N⟩ : SV)]) (Nat.le_of_ble_eq_true rfl) hu (fun hs => stepsG_spec m un 8 A N 48 ([(⟨10, 0, 0, 0, N⟩ : SV)]) (by decide) hodd (by kernel_rfl) Tryz.call48 (fun hs => kind8_spec m un 8 A N hm2 hA hw hu hs) hs) (fun hs => refS_spec m un 8 A N (⟨10, 0, 0, 0, N⟩ : SV) hm hA hw (fun hs => single8_spec A N _ hs) hs)
    · exact dstR_walk W hW m un 9 A N (turnL m) (by unfold turnL; rw [turnR_length]; omega) hu (fun hs => stepsG_spec m un 9 A N 49 (turnL m) (by decide) hodd (by kernel_rfl) Tryz.call49 (fun hs => kind9_spec m un 9 A N hm2 hA hw hu hs) hs) (fun hs => by have h := refG_spec m un 9 A N hm hA hw hu hmm (by decide) hs; rw [rowG_9] at h; exact h)
end Go.Proofs.YtahmejhidelkbaaGreatDoor

/-! DsH -/
namespace Go.Proofs.YtahmejhidelkbaaGreatDoor
open Go.RowKit Go.Sx
set_option linter.unusedVariables false
set_option linter.unusedSimpArgs false
set_option linter.unnecessarySimpa false
set_option maxRecDepth 100000
structure EvtV where
  kind_ : Int
  a_ : Int
  n_ : Int
def EvtV.cells (o : EvtV) : Array Value := #[.int .u8 o.kind_, .int .u16 o.a_, .int .i64 o.n_]
abbrev EvtV.kinds : List FK := [.int .u8, .int .u16, .int .i64]
structure EvtV.OK (o : EvtV) : Prop where
  kind_ : 0 ≤ o.kind_ ∧ o.kind_ ≤ 255
  a_ : 0 ≤ o.a_ ∧ o.a_ ≤ 65535
  n_ : -9223372036854775808 ≤ o.n_ ∧ o.n_ ≤ 9223372036854775807
theorem EvtV.of {cs : Array Value} (h : fitsAll EvtV.kinds cs.toList) (hw : ∀ s, Value.string s ∈ cs.toList → s.size ≤ 140737488351232) : ∃ o : EvtV, EvtV.OK o ∧ cs = EvtV.cells o := by
  obtain ⟨l⟩ := cs
  simp only at h hw
  obtain ⟨_, r0, rfl, ⟨⟨n0, rfl, w0⟩, -⟩, g0⟩ := fitsAll_cons h
  obtain ⟨_, r1, rfl, ⟨⟨n1, rfl, w1⟩, -⟩, g1⟩ := fitsAll_cons g0
  obtain ⟨_, r2, rfl, ⟨⟨n2, rfl, w2⟩, -⟩, g2⟩ := fitsAll_cons g1
  obtain rfl := fitsAll_nil g2
  exact ⟨⟨n0, n1, n2⟩, ⟨(by have h := wf_u8 w0; exact h), (by have h := wf_u16 w1; exact h), (by have h := wf_i64 w2; exact h)⟩, rfl⟩
end Go.Proofs.YtahmejhidelkbaaGreatDoor
