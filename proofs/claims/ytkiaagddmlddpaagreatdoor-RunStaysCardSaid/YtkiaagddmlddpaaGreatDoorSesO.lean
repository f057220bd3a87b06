/-
  Package session: Of.
-/
import Derived.Test.YtkiaagddmlddpaaGreatDoorProg
import Derived.Test.YtkiaagddmlddpaaGreatDoorCardS
import Derived.Test.YtkiaagddmlddpaaGreatDoorSxQ
namespace Go.Proofs.YtkiaagddmlddpaaGreatDoor
open Go.RowKit Go.Sx
set_option linter.unusedVariables false
set_option linter.unusedSimpArgs false
set_option linter.unnecessarySimpa false
set_option maxRecDepth 100000
theorem lastsOK : ElemOK Tryz.prog 77 80 3 32 := ⟨by kernel_rfl, ⟨Tryz.t80, .agg #[.int .u64 0, .int .i64 0, .string ⟨#[]⟩], by kernel_rfl, by kernel_rfl, by kernel_rfl, by kernel_rfl, by kernel_rfl⟩, by decide⟩
def badLast (x : LastV) : Bool :=
  if ((x.time : Int) == 0) = true then
    (!(decide (x = (⟨0, ⟨0, (⟨#[]⟩ : ByteArray)⟩⟩ : LastV))))
  else
    false
theorem badLast_spec {w0 w : World} {L : List Asn} (x : LastV) (hs : St w0 L w) : Calls Tryz.prog 57 #[.agg (LastV.cells x)] w (Ret fun rv w' => rv = .bool (badLast x) ∧ St w0 L w') := by
  refine enter (args := [.agg (LastV.cells x)]) Tryz.func57 rfl Tryz.ntmps57 (Nat.le_of_ble_eq_true (by kernel_rfl)) ?_
  refine GoC.slots (S' := [(0, .agg (LastV.cells x))]) rfl ?_
  refine GoC.seq ?_
  refine GoC.regT [3, 3] (.ef 0 (.rd 1 .done)) (by kernel_rfl) (by kernel_rfl) ?_
  refine GoR.box rfl rfl (by kernel_rfl) (v := .agg (LastV.cells x)) (by kernel_rfl) hs (cs := LastV.cells x) (by kernel_rfl) ?_
  intro b1 w2 hs3
  refine ⟨(opn (by kernel_rfl)), ?_⟩
  refine GoR.phaseK [(1, .gen [])] [2, 1] [] [(2, .bool false), (1, .pointer (some ⟨b1, 0, none⟩))] (by kernel_rfl) rfl ak0 ?_
  refine GoR.done (GoQ.thn (GoC.seq ?_))
  refine GoC.regT [511, 511, 511, 511, 511, 511, 511, 511, 511] (.rd 0 (.rd 1 (.rd 2 (.rd 3 (.rd 4 (.rd 5 (.rd 6 (.rd 7 (.rd 8 .done))))))))) (by kernel_rfl) (by kernel_rfl) ?_
  refine GoR.phaseK [(0, .gen []), (1, .gen [.int .u64 x.time]), (2, .gen []), (3, .gen [])] [6, 2, 1] [(1, [.cell ⟨b1, 0, none⟩ (.int .u64 x.time)])] [(6, .bool ((x.time : Int) == 0)), (2, .bool false), (1, .pointer (some ⟨b1, 0, none⟩))] (by kernel_rfl) rfl (ak (okc (hs3.cell 0 rfl (by kernel_rfl)) ok0) ak0) ?_
  rcases Bool.eq_false_or_eq_true ((x.time : Int) == 0) with h4 | h4
  · refine GoR.setB 6 true (by decide) (by kernel_rfl) h4 ?_
    have h4' : (x.time : Int) = 0 := ieqT h4
    refine GoR.phaseK [(4, .agg (LastV.cells x)), (5, .gen [])] [8, 7, 6, 2] [(4, [.prop (Array.size (LastV.cells x) = 3), .cells ⟨b1, 0, none⟩ (LastV.cells x)])] [(8, .agg #[.int .u64 0, .int .i64 0, .string (⟨#[]⟩ : ByteArray)]), (7, .agg (LastV.cells x)), (6, .bool true), (2, .bool false)] (by kernel_rfl) rfl (ak (okp (by kernel_rfl) (oka (hs3.cells 0 0 rfl (by kernel_rfl)) ok0)) ak0) ?_
    refine GoR.eqAgg rfl (by kernel_rfl) (b := false) (t := 80) (xs := LastV.cells x) (ys := LastV.cells (⟨0, ⟨0, (⟨#[]⟩ : ByteArray)⟩⟩ : LastV)) (m := 3) (by kernel_rfl) (by kernel_rfl) (by decide) (by kernel_rfl) (r := !(decide (x = (⟨0, ⟨0, (⟨#[]⟩ : ByteArray)⟩⟩ : LastV)))) (aggNe  (lastEq x (⟨0, ⟨0, (⟨#[]⟩ : ByteArray)⟩⟩ : LastV))) ?_
    refine GoR.phaseK [(7, .gen []), (8, .gen [])] [2] [] [(2, .bool (!(decide (x = (⟨0, ⟨0, (⟨#[]⟩ : ByteArray)⟩⟩ : LastV)))))] (by kernel_rfl) rfl ak0 ?_
    refine GoR.done (GoQ.thn (GoC.ret ?_))
    refine GoQ.done (.inl rfl) (v := .bool (!(decide (x = (⟨0, ⟨0, (⟨#[]⟩ : ByteArray)⟩⟩ : LastV))))) (fun a hf => results1 rfl (by kernel_rfl) a hf) ?_
    have hr : badLast x = (!(decide (x = (⟨0, ⟨0, (⟨#[]⟩ : ByteArray)⟩⟩ : LastV)))) := by rw [badLast, if_pos h4]
    exact ⟨by first | (rw [hr]; done) | (rw [hr]; rfl), hs3.drop 1⟩
  · refine GoR.setB 6 false (by decide) (by kernel_rfl) h4 ?_
    have h4' : ¬ ((x.time : Int) = 0) := ieqF h4
    refine GoR.phaseK [(4, .gen []), (5, .gen []), (6, .gen []), (7, .gen []), (8, .gen [])] [2] [] [(2, .bool false)] (by kernel_rfl) rfl ak0 ?_
    refine GoR.done (GoQ.thn (GoC.ret ?_))
    refine GoQ.done (.inl rfl) (v := .bool false) (fun a hf => results1 rfl (by kernel_rfl) a hf) ?_
    have hr : badLast x = false := by rw [badLast, if_neg (ne_true_of_eq_false h4)]
    exact ⟨by first | (rw [hr]; done) | (rw [hr]; rfl), hs3.drop 1⟩
theorem ixf_spec {w0 w : World} {L : List Asn} {ad : Option Addr} {c : Nat} (l : List LastV) (hll : l.length ≤ 1000000000000) (hr : ∀ w, St w0 L w → RowsAt w ad l.length 3 (fun k => LastV.cells (l.getD k dLast))) (hs : St w0 (L) w) : Calls Tryz.prog 71 #[.slice ad l.length c, .func (.func 57) #[] #[]] w (Ret fun rv w' => (∃ (k : Nat), rv = .int .i64 (k : Nat) ∧ (l.any badLast) = true ∧ St w0 (L) w') ∨ (rv = .int .i64 (-1) ∧ (l.any badLast) = false ∧ St w0 (L) w')) := by
  refine enter (args := [.slice ad l.length c, .func (.func 57) #[] #[]]) Tryz.func71 rfl Tryz.ntmps71 (Nat.le_of_ble_eq_true (by kernel_rfl)) ?_
  refine GoC.slots (S' := [(0, .slice ad l.length c), (1, .func (.func 57) #[] #[])]) rfl ?_
  refine GoC.seq ?_
  refine GoC.regT [1] (.rd 0 .done) (by kernel_rfl) (by kernel_rfl) ?_
  refine GoR.phaseK [(0, .gen [])] [4, 0, 1] [] [(4, .int .i64 0), (0, .slice ad l.length c), (1, .func (.func 57) #[] #[])] (by kernel_rfl) rfl ak0 ?_
  refine GoR.done (GoQ.thn (GoC.seq (GoC.seq ?_)))
  refine GoC.regT [7, 7, 7] (.rd 0 (.rd 1 (.rd 2 .done))) (by kernel_rfl) (by kernel_rfl) ?_
  refine GoR.phaseK [(0, .gen []), (1, .gen []), (2, .gen [])] [8, 7, 4, 0, 1] [] [(8, .int .i64 0), (7, .int .i64 (l.length : Nat)), (4, .int .i64 0), (0, .slice ad l.length c), (1, .func (.func 57) #[] #[])] (by kernel_rfl) rfl ak0 ?_
  refine GoR.done (GoQ.thn (GoC.block ?_))
  refine GoC.loop (T := Nat) (fun gg => [(0, .slice ad l.length c), (1, .func (.func 57) #[] #[]), (7, .int .i64 (l.length : Nat)), (8, .int .i64 (gg : Nat))]) (fun gg w => (gg ≤ l.length ∧ ∀ y ∈ l.take gg, badLast y = false) ∧ St w0 (L) w) (fun gg => l.length - gg) 0 [0, 1, 7, 8] (by kernel_rfl) ⟨⟨Nat.zero_le _, fun y hy => by simp at hy⟩, hs⟩ ?_
  rintro k w1 ⟨hp0, hs2⟩
  have hp : k ≤ l.length ∧ ∀ y ∈ l.take k, badLast y = false := hp0
  have hs3 : St w0 (L) w1 := hs2
  refine GoC.slots (S' := [(0, .slice ad l.length c), (1, .func (.func 57) #[] #[]), (7, .int .i64 (l.length : Nat)), (8, .int .i64 (k : Nat))]) rfl ?_
  refine GoC.seq ?_
  refine GoC.regT [1] (.rd 0 .done) (by kernel_rfl) (by kernel_rfl) ?_
  refine GoR.phaseK [(0, .gen [])] [9, 0, 1, 7, 8] [] [(9, .bool (decide (((k : Nat) : Int) < (l.length : Nat)))), (0, .slice ad l.length c), (1, .func (.func 57) #[] #[]), (7, .int .i64 (l.length : Nat)), (8, .int .i64 (k : Nat))] (by kernel_rfl) rfl ak0 ?_
  refine GoR.done (GoQ.thn (GoC.seq ?_))
  refine GoC.cond (t := decide (((k : Nat) : Int) < (l.length : Nat))) (by kernel_rfl) (fun h4 => ?_) (fun h4 => ?_)
  · have h4' : ((k : Nat) : Int) < (l.length : Nat) := of_decide_eq_true h4
    have hk : k < l.length := by omega
    obtain ⟨ab5, ao6, rfl⟩ := RowsAt.isSome (hr _ (hs3.drop 0)) (by omega)
    refine GoC.skip (GoQ.thn (GoC.seq (GoC.block (GoC.seq ?_))))
    refine GoC.regT [3, 3] (.rd 0 (.rd 1 .done)) (by kernel_rfl) (by kernel_rfl) ?_
    refine GoR.phaseK [(0, .gen []), (1, .gen [])] [5, 0, 1, 7, 8] [] [(5, .int .i64 (k : Nat)), (0, .slice (some ⟨ab5, ao6, none⟩) l.length c), (1, .func (.func 57) #[] #[]), (7, .int .i64 (l.length : Nat)), (8, .int .i64 (k : Nat))] (by kernel_rfl) rfl ak0 ?_
    refine GoR.done (GoQ.thn (GoC.seq ?_))
    refine GoC.regT [63, 63, 63, 63, 63, 63] (.rd 0 (.rd 1 (.rd 2 (.rd 3 (.rd 4 (.ef 5 .done)))))) (by kernel_rfl) (by kernel_rfl) ?_
    refine GoR.phaseK [(0, .gen []), (1, .gen []), (2, .gen []), (3, .as_ (.pointer (some ⟨ab5, ao6 + (k * 3), none⟩)) .at_), (4, .agg (LastV.cells (l.getD k dLast)))] [15, 11, 5, 0, 1, 7, 8] [(3, [.prop (0 ≤ ((k : Nat) : Int) ∧ ((k : Nat) : Int) < ((l.length : Nat) : Int)), .prop (Value.pointer (some (Addr.add ⟨ab5, ao6, none⟩ (Int.toNat (k : Nat) * 3))) = Value.pointer (some ⟨ab5, ao6 + (k * 3), none⟩))]), (4, [.prop (Array.size (LastV.cells (l.getD k dLast)) = 3), .cells ⟨ab5, ao6 + (k * 3), none⟩ (LastV.cells (l.getD k dLast))])] [(15, .agg (LastV.cells (l.getD k dLast))), (11, .func (.func 57) #[] #[]), (5, .int .i64 (k : Nat)), (0, .slice (some ⟨ab5, ao6, none⟩) l.length c), (1, .func (.func 57) #[] #[]), (7, .int .i64 (l.length : Nat)), (8, .int .i64 (k : Nat))] (by kernel_rfl) rfl (ak (okp (by omega) (okp (ptrAdd _ _ _) ok0)) (ak (okp (by kernel_rfl) (oka (RowsAt.all0 (hr _ (hs3.drop 0)) (by first | omega | (simp only [List.length_set]; omega) | (simp only [List.length_set, List.length_append, List.length_cons, List.length_nil]; omega)) (Nat.le_of_ble_eq_true (by kernel_rfl)) (by kernel_rfl)) ok0)) ak0)) ?_
    refine GoR.call rfl rfl (by kernel_rfl) (f := 57) (args := #[.agg (LastV.cells (l.getD k dLast))]) (by kernel_rfl) Tryz.call57 (badLast_spec (l.getD k dLast)  hs3) ?_
    rintro v8 w9 ⟨rfl, hs7⟩
    refine ⟨(opn (by kernel_rfl)), ?_⟩
    refine GoR.done (GoQ.thn ?_)
    refine GoC.cond (t := badLast (l.getD k dLast)) (by kernel_rfl) (fun h10 => ?_) (fun h10 => ?_)
    · refine GoC.seq ?_
      refine GoC.regT [3, 3] (.rd 0 (.rd 1 .done)) (by kernel_rfl) (by kernel_rfl) ?_
      refine GoR.phaseK [(0, .gen []), (1, .gen [])] [4, 0, 1, 7, 8] [] [(4, .int .i64 (k : Nat)), (0, .slice (some ⟨ab5, ao6, none⟩) l.length c), (1, .func (.func 57) #[] #[]), (7, .int .i64 (l.length : Nat)), (8, .int .i64 (k : Nat))] (by kernel_rfl) rfl ak0 ?_
      refine GoR.done (GoQ.thn (GoC.ret (GoQ.blkR (GoQ.skipCR (GoQ.skipLR (GoQ.blkR (GoQ.skipCR ?_)))))))
      refine GoQ.done (.inl rfl) (v := .int .i64 (k : Nat)) (fun a hf => results1 rfl (by kernel_rfl) a hf) ?_
      exact .inl ⟨k, rfl, (by rw [List.any_eq_true]; exact ⟨_, getD_mem (d := dLast) hk, h10⟩), hs7⟩
    · refine GoC.skip (GoQ.blkN (GoQ.thn ?_))
      refine GoC.regT [3, 3] (.rd 0 (.rd 1 .done)) (by kernel_rfl) (by kernel_rfl) ?_
      refine GoR.phaseK [(0, .as_ (.int .i64 ((k : Nat) + 1)) (.gen [])), (1, .gen [])] [8, 0, 1, 7] [(0, [.prop (Value.int .i64 (IntKind.i64.wrap ((k : Nat) + 1)) = Value.int .i64 ((k : Nat) + 1))])] [(8, .int .i64 ((k : Nat) + 1)), (0, .slice (some ⟨ab5, ao6, none⟩) l.length c), (1, .func (.func 57) #[] #[]), (7, .int .i64 (l.length : Nat))] (by kernel_rfl) rfl (ak (okp (i64ok (by omega) (by omega)) ok0) ak0) ?_
      refine GoR.done ?_
      exact GoQ.back (k + 1) [0, 1, 7, 8] (by kernel_rfl) (by show l.length - (k + 1) < l.length - k; omega) ⟨⟨by omega, fun y hy => by rw [take_succ_getD (d := dLast) hk] at hy; exact (List.mem_append.1 hy).elim (hp.2 y) (fun h => by rw [List.mem_singleton.1 h]; exact h10)⟩, hs7⟩
  · have h4' : ¬ (((k : Nat) : Int) < (l.length : Nat)) := of_decide_eq_false h4
    refine GoC.exit (GoQ.skipC (GoQ.skipL (GoQ.hit (GoQ.thn (GoC.seq ?_)))))
    refine GoC.regT [1] (.rd 0 .done) (by kernel_rfl) (by kernel_rfl) ?_
    refine GoR.phaseK [(0, .gen [])] [4] [] [(4, .int .i64 (-1))] (by kernel_rfl) rfl ak0 ?_
    refine GoR.done (GoQ.thn (GoC.ret ?_))
    refine GoQ.done (.inl rfl) (v := .int .i64 (-1)) (fun a hf => results1 rfl (by kernel_rfl) a hf) ?_
    exact .inr (⟨rfl, (by rw [List.any_eq_false]; intro y hy; rw [hp.2 y (by rw [List.take_of_length_le (by omega)]; exact hy)]; decide), hs3⟩)
theorem cf_spec {w0 w : World} {L : List Asn} {ad : Option Addr} {c : Nat} (l : List LastV) (hll : l.length ≤ 1000000000000) (hr : ∀ w, St w0 L w → RowsAt w ad l.length 3 (fun k => LastV.cells (l.getD k dLast))) (hs : St w0 (L) w) : Calls Tryz.prog 56 #[.slice ad l.length c, .func (.func 57) #[] #[]] w (Ret fun rv w' => rv = .bool (l.any badLast) ∧ St w0 (L) w') := by
  refine enter (args := [.slice ad l.length c, .func (.func 57) #[] #[]]) Tryz.func56 rfl Tryz.ntmps56 (Nat.le_of_ble_eq_true (by kernel_rfl)) ?_
  refine GoC.slots (S' := [(0, .slice ad l.length c), (1, .func (.func 57) #[] #[])]) rfl ?_
  refine GoC.seq ?_
  refine GoC.regT [1] (.rd 0 .done) (by kernel_rfl) (by kernel_rfl) ?_
  refine GoR.phaseK [(0, .gen [])] [4, 0, 1] [] [(4, .bool false), (0, .slice ad l.length c), (1, .func (.func 57) #[] #[])] (by kernel_rfl) rfl ak0 ?_
  refine GoR.done (GoQ.thn (GoC.seq ?_))
  refine GoC.regT [31, 31, 31, 31, 31] (.rd 0 (.rd 1 (.ef 2 (.rd 3 (.rd 4 .done))))) (by kernel_rfl) (by kernel_rfl) ?_
  refine GoR.phaseK [(0, .gen []), (1, .gen [])] [6, 5, 4] [] [(6, .func (.func 57) #[] #[]), (5, .slice ad l.length c), (4, .bool false)] (by kernel_rfl) rfl ak0 ?_
  refine GoR.call rfl rfl (by kernel_rfl) (f := 71) (args := #[.slice ad l.length c, .func (.func 57) #[] #[]]) (by kernel_rfl) Tryz.call71 (ixf_spec l (by first | assumption | omega) (fun w h => hr _ (h.drop 0)) hs) ?_
  rintro v6 w7 (⟨k1, rfl, h2, hs3⟩ | ⟨rfl, h4, hs5⟩)
  · refine ⟨(opn (by kernel_rfl)), ?_⟩
    refine GoR.phaseK [(3, .gen []), (4, .gen [])] [4] [] [(4, .bool (decide (((k1 : Nat) : Int) ≥ 0)))] (by kernel_rfl) rfl ak0 ?_
    refine GoR.done (GoQ.thn (GoC.ret ?_))
    refine GoQ.done (.inl rfl) (v := .bool (decide (((k1 : Nat) : Int) ≥ 0))) (fun a hf => results1 rfl (by kernel_rfl) a hf) ?_
    exact ⟨(by first | exact congrArg Value.bool ((decide_eq_true (by omega)).trans h2.symm) | exact congrArg Value.bool h2.symm), hs3⟩
  · refine ⟨(opn (by kernel_rfl)), ?_⟩
    refine GoR.phaseK [(3, .gen []), (4, .gen [])] [4] [] [(4, .bool false)] (by kernel_rfl) rfl ak0 ?_
    refine GoR.done (GoQ.thn (GoC.ret ?_))
    refine GoQ.done (.inl rfl) (v := .bool false) (fun a hf => results1 rfl (by kernel_rfl) a hf) ?_
    exact ⟨(by first | exact congrArg Value.bool ((decide_eq_true (by omega)).trans h4.symm) | exact congrArg Value.bool h4.symm), hs5⟩
def tofOK (l : List LastV) : Bool := decide (l.length = 8) && !l.any badLast
theorem sof_spec {w0 w : World} {L : List Asn} {ad : Option Addr} {c : Nat} (l : List LastV) (hll : l.length ≤ 1000000000000) (hnc : ad = none → c = 0) (hr : ∀ w, St w0 L w → RowsAt w ad l.length 3 (fun k => LastV.cells (l.getD k dLast))) (hs : St w0 (L) w) : Calls Tryz.prog 39 #[.slice ad l.length c] w (Ret fun rv w' => (∃ (p : Nat), rv = .tuple #[.pointer (some ⟨p, 0, none⟩), .int .i64 0] ∧ (tofOK l) = true ∧ St w0 ((Cel p (arrCells LastV.cells l) 90) :: L) w') ∨ (rv = .tuple #[.pointer none, .int .i64 1] ∧ (tofOK l) = false ∧ St w0 (L) w')) := by
  refine enter (args := [.slice ad l.length c]) Tryz.func39 rfl Tryz.ntmps39 (Nat.le_of_ble_eq_true (by kernel_rfl)) ?_
  refine GoC.slots (S' := [(0, .slice ad l.length c)]) rfl ?_
  refine GoC.seq ?_
  refine GoC.regT [3, 3] (.rd 0 (.rd 1 .done)) (by kernel_rfl) (by kernel_rfl) ?_
  refine GoR.phaseK [(0, .gen []), (1, .gen [])] [3, 2, 0] [] [(3, .int .i64 0), (2, .pointer none), (0, .slice ad l.length c)] (by kernel_rfl) rfl ak0 ?_
  refine GoR.done (GoQ.thn (GoC.seq (GoC.seq ?_)))
  refine GoC.regT [127, 127, 127, 127, 127, 127, 127] (.rd 0 (.rd 1 (.rd 2 (.rd 3 (.rd 4 (.ef 5 (.rd 6 .done))))))) (by kernel_rfl) (by kernel_rfl) ?_
  refine GoR.phaseK [(0, .gen []), (1, .gen []), (2, .gen []), (3, .gen [])] [8, 3, 2, 0] [] [(8, .bool (((l.length : Nat) : Int) != 8)), (3, .int .i64 0), (2, .pointer none), (0, .slice ad l.length c)] (by kernel_rfl) rfl ak0 ?_
  rcases Bool.eq_false_or_eq_true (((l.length : Nat) : Int) != 8) with h1 | h1
  · refine GoR.setB 8 true (by decide) (by kernel_rfl) h1 ?_
    have h1' : ¬ (((l.length : Nat) : Int) = 8) := ineT h1
    refine GoR.phaseK [(4, .gen [])] [9, 8, 3, 2, 0] [] [(9, undef), (8, .bool true), (3, .int .i64 0), (2, .pointer none), (0, .slice ad l.length c)] (by kernel_rfl) rfl ak0 ?_
    refine GoR.skip rfl (by kernel_rfl) (opn (by kernel_rfl)) ?_
    refine GoR.phaseK [(6, .gen [])] [11, 3, 2, 0] [] [(11, .bool true), (3, .int .i64 0), (2, .pointer none), (0, .slice ad l.length c)] (by kernel_rfl) rfl ak0 ?_
    refine GoR.done (GoQ.thn (GoC.condT (by kernel_rfl) (GoC.seq ?_)))
    refine GoC.regT [3, 3] (.rd 0 (.rd 1 .done)) (by kernel_rfl) (by kernel_rfl) ?_
    refine GoR.phaseK [(0, .gen []), (1, .gen [])] [3, 2, 0] [] [(3, .int .i64 1), (2, .pointer none), (0, .slice ad l.length c)] (by kernel_rfl) rfl ak0 ?_
    refine GoR.done (GoQ.thn (GoC.ret (GoQ.skipCR ?_)))
    refine GoQ.done (.inl rfl) (v := .tuple #[.pointer none, .int .i64 1]) (fun a hf => results2 rfl (by kernel_rfl) (by kernel_rfl) a hf) ?_
    exact .inr (⟨rfl, (by first | (rw [tofOK, decide_eq_false (by omega)]; rfl) | (rw [tofOK, show l.any badLast = true by assumption, Bool.not_true, Bool.and_false])), hs⟩)
  · refine GoR.setB 8 false (by decide) (by kernel_rfl) h1 ?_
    have h1' : ((l.length : Nat) : Int) = 8 := ineF h1
    refine GoR.phaseK [(4, .gen [])] [9, 8, 3, 2, 0] [] [(9, .slice ad l.length c), (8, .bool false), (3, .int .i64 0), (2, .pointer none), (0, .slice ad l.length c)] (by kernel_rfl) rfl ak0 ?_
    refine GoR.call rfl rfl (by kernel_rfl) (f := 56) (args := #[.slice ad l.length c, .func (.func 57) #[] #[]]) (by kernel_rfl) Tryz.call56 (cf_spec l (by first | assumption | omega) (fun w h => hr _ (h.drop 0)) hs) ?_
    rintro v3 w4 ⟨rfl, hs2⟩
    refine ⟨(opn (by kernel_rfl)), ?_⟩
    refine GoR.phaseK [(6, .gen [])] [11, 3, 2, 0] [] [(11, .bool (l.any badLast)), (3, .int .i64 0), (2, .pointer none), (0, .slice ad l.length c)] (by kernel_rfl) rfl ak0 ?_
    refine GoR.done (GoQ.thn ?_)
    refine GoC.cond (t := l.any badLast) (by kernel_rfl) (fun h5 => ?_) (fun h5 => ?_)
    · refine GoC.seq ?_
      refine GoC.regT [3, 3] (.rd 0 (.rd 1 .done)) (by kernel_rfl) (by kernel_rfl) ?_
      refine GoR.phaseK [(0, .gen []), (1, .gen [])] [3, 2, 0] [] [(3, .int .i64 1), (2, .pointer none), (0, .slice ad l.length c)] (by kernel_rfl) rfl ak0 ?_
      refine GoR.done (GoQ.thn (GoC.ret (GoQ.skipCR ?_)))
      refine GoQ.done (.inl rfl) (v := .tuple #[.pointer none, .int .i64 1]) (fun a hf => results2 rfl (by kernel_rfl) (by kernel_rfl) a hf) ?_
      exact .inr (⟨rfl, (by first | (rw [tofOK, decide_eq_false (by omega)]; rfl) | (rw [tofOK, show l.any badLast = true by assumption, Bool.not_true, Bool.and_false])), hs2⟩)
    · refine GoC.skip (GoQ.thn (GoC.seq ?_))
      refine GoC.regT [3, 3] (.ef 0 (.rd 1 .done)) (by kernel_rfl) (by kernel_rfl) ?_
      refine GoR.call rfl rfl (by kernel_rfl) (f := 20) (args := #[]) (by kernel_rfl) Tryz.call20 (sesNew_spec hs2) ?_
      rintro v8 w9 ⟨p6, rfl, hs7⟩
      refine ⟨(opn (by kernel_rfl)), ?_⟩
      refine GoR.phaseK [(1, .gen [])] [4, 3, 2, 0] [] [(4, .pointer (some ⟨p6, 0, none⟩)), (3, .int .i64 0), (2, .pointer none), (0, .slice ad l.length c)] (by kernel_rfl) rfl ak0 ?_
      refine GoR.done (GoQ.thn (GoC.seq ?_))
      refine GoC.regT [63, 63, 63, 63, 63, 63] (.rd 0 (.rd 1 (.rd 2 (.rd 3 (.rd 4 (.ef 5 .done)))))) (by kernel_rfl) (by kernel_rfl) ?_
      refine GoR.phaseK [(0, .gen []), (1, .gen []), (2, .gen []), (3, .as_ (.slice (some ⟨p6, 0, none⟩) 8 8) (.sub 0 8)), (4, .gen [])] [17, 16, 4, 3, 2] [(3, [.prop ((((none : Option Operand)) = none → (0 : Nat) = 0) ∧ (((none : Option Operand)) = none → (8 : Nat) = 8) ∧ (0 : Nat) ≤ 8 ∧ (8 : Nat) ≤ 8), .prop (Value.slice (some (if 8 = 0 then Addr.mk p6 0 none else (Addr.mk p6 0 none).add (0 * 3))) (8 - 0) (8 - 0) = Value.slice (some ⟨p6, 0, none⟩) 8 8)])] [(17, .slice ad l.length c), (16, .slice (some ⟨p6, 0, none⟩) 8 8), (4, .pointer (some ⟨p6, 0, none⟩)), (3, .int .i64 0), (2, .pointer none)] (by kernel_rfl) rfl (ak (okp ⟨(by first | (intro _; rfl) | (intro hc; cases hc)), (by first | (intro _; rfl) | (intro hc; cases hc)), (by omega), (by omega)⟩ (okp (subArr0 _ _ _ _ _ (by decide)) ok0)) ak0) ?_
      refine GoR.copy rfl (by kernel_rfl) lastsOK lastF (b := p6) (off := 0) (dLen := 8) (dCap := 8) (ys := l) (adx := ad) (cx := c) dLast (by kernel_rfl) hs7 (hr _ (hs7.drop 1)) (by rw [arr_size (lastF).size]; simp only [Nat.zero_add]; refine Nat.mul_le_mul_right _ ?_; first | omega | (simp only [List.length_replicate]; omega)) (cs' := arrCells LastV.cells l) (copy_all (lastF).size (by first | omega | simp) (by omega)) ?_
      intro w10 hs11
      refine ⟨(opn (by kernel_rfl)), ?_⟩
      refine GoR.done (GoQ.thn (GoC.seq ?_))
      refine GoC.regT [7, 7, 7] (.rd 0 (.rd 1 (.rd 2 .done))) (by kernel_rfl) (by kernel_rfl) ?_
      refine GoR.phaseK [(0, .gen []), (1, .gen []), (2, .gen [])] [3, 2] [] [(3, .int .i64 0), (2, .pointer (some ⟨p6, 0, none⟩))] (by kernel_rfl) rfl ak0 ?_
      refine GoR.done (GoQ.thn (GoC.ret ?_))
      refine GoQ.done (.inl rfl) (v := .tuple #[.pointer (some ⟨p6, 0, none⟩), .int .i64 0]) (fun a hf => results2 rfl (by kernel_rfl) (by kernel_rfl) a hf) ?_
      exact .inl ⟨p6, rfl, (by rw [tofOK, show l.any badLast = false by assumption, decide_eq_true (by omega)]; rfl), hs11⟩
end Go.Proofs.YtkiaagddmlddpaaGreatDoor
