/-
  The laws of layer 9: Few, works.
-/
import Derived.Test.YtbmmknchcdhefaaGreatDoorSxT
import Derived.Test.YtbmmknchcdhefaaGreatDoorProg
import Derived.Test.YtbmmknchcdhefaaGreatDoorLedE
namespace Go.Proofs.YtbmmknchcdhefaaGreatDoor
open Go.RowKit Go.Sx
set_option linter.unusedVariables false
set_option linter.unusedSimpArgs false
set_option linter.unnecessarySimpa false
set_option maxRecDepth 100000
theorem opF : CellF OpV.cells 6 := ⟨fun _ => rfl, fun _ => rfl⟩
def opSum (o : OpV) : Nat := o.key.size + o.value.size + o.old.size + o.dest.size
def few (l : List OpV) : Bool := decide (l.length ≤ 150) && l.all fun o => decide (opSum o ≤ 2000)
theorem few_false1 {l : List OpV} (h : ¬ l.length ≤ 150) : few l = false := by simp [few, h]
theorem few_false2 {l : List OpV} {k : Nat} {d : OpV} (hk : k < l.length) (h : 2000 < opSum (l.getD k d)) : few l = false := by
  have h1 : ∃ x ∈ l, 2000 < opSum x := ⟨l[k], List.getElem_mem hk, by simpa [List.getD_eq_getElem?_getD, List.getElem?_eq_getElem hk] using h⟩
  obtain ⟨x, hx, h2⟩ := h1
  have h3 : (l.all fun o => decide (opSum o ≤ 2000)) = false := by
    rw [List.all_eq_false]
    exact ⟨x, hx, by simp; omega⟩
  rw [few, h3, Bool.and_false]
theorem few_true {l : List OpV} {d : OpV} (h1 : l.length ≤ 150) (h : ∀ j, j < l.length → opSum (l.getD j d) ≤ 2000) : few l = true := by
  have h3 : (l.all fun o => decide (opSum o ≤ 2000)) = true := by
    rw [List.all_eq_true]
    intro x hx
    obtain ⟨j, hj, rfl⟩ := List.getElem_of_mem hx
    have := h j hj
    simpa [List.getD_eq_getElem?_getD, List.getElem?_eq_getElem hj] using this
  rw [few, h3, Bool.and_true]
  simpa using h1
def Small (o : OpV) : Prop := opSum o ≤ 1000000000000000
theorem small_getD {l : List OpV} {d : OpV} (h : ∀ o ∈ l, Small o) (k : Nat) (hk : k < l.length) : opSum (l.getD k d) ≤ 1000000000000000 := by
  have : l.getD k d = l[k] := by simp [List.getD_eq_getElem?_getD, List.getElem?_eq_getElem hk]
  rw [this]
  exact h _ (List.getElem_mem hk)
set_option maxHeartbeats 400000 in
theorem few_spec {w0 w : World} {L : List Asn} {ad : Option Addr} {c : Nat} (l : List OpV) (hb : ∀ o ∈ l, Small o) (hln : l.length ≤ 1000000000000000) (hr : ∀ w, St w0 L w → RowsAt w ad l.length 6 (fun k => OpV.cells (l.getD k dOp))) (hs : St w0 L w) : Calls Tryz.prog 18 #[.slice ad l.length c] w (Ret fun rv w' => rv = .bool (few l) ∧ St w0 L w') := by
  refine enter (args := [.slice ad l.length c]) Tryz.func18 rfl Tryz.ntmps18 (Nat.le_of_ble_eq_true (by kernel_rfl)) ?_
  refine GoC.slots (S' := [(0, .slice ad l.length c)]) rfl ?_
  refine GoC.seq ?_
  refine Xt (.rd 0 .done) ?_
  refine Xk [(0, .gen [])] [] [(2, .bool false), (0, .slice ad l.length c)] ak0 ?_
  refine GoR.done (GoQ.thn (GoC.seq (GoC.seq ?_)))
  refine Xt (.rd 0 (.rd 1 (.rd 2 .done))) ?_
  refine Xk [(0, .gen []), (1, .gen []), (2, .gen [])] [] [(6, .bool (decide (((l.length : Nat) : Int) > 150))), (2, .bool false), (0, .slice ad l.length c)] ak0 ?_
  refine GoR.done (GoQ.thn ?_)
  refine Xc (t := decide (((l.length : Nat) : Int) > 150)) (fun h1 => ?_) (fun h1 => ?_)
  · have h1' : ((l.length : Nat) : Int) > 150 := of_decide_eq_true h1
    refine GoC.seq ?_
    refine Xt (.rd 0 .done) ?_
    refine Xk [(0, .gen [])] [] [(2, .bool false), (0, .slice ad l.length c)] ak0 ?_
    refine GoR.done (GoQ.thn (GoC.ret (GoQ.skipCR ?_)))
    refine X1 (v := .bool false) ?_
    exact ⟨by rw [few_false1 (by omega)], hs⟩
  · have h1' : ¬ (((l.length : Nat) : Int) > 150) := of_decide_eq_false h1
    refine GoC.skip (GoQ.thn (GoC.seq (GoC.seq ?_)))
    refine Xt (.rd 0 .done) ?_
    refine Xk [(0, .gen [])] [] [(3, .int .i64 0), (2, .bool false), (0, .slice ad l.length c)] ak0 ?_
    refine GoR.done (GoQ.thn (GoC.block ?_))
    have h150 : l.length ≤ 150 := by omega
    refine GoC.loop (T := Nat) (fun k => [(0, .slice ad l.length c), (3, .int .i64 (k : Nat))]) (fun k w => (k ≤ l.length ∧ ∀ j, j < k → opSum (l.getD j dOp) ≤ 2000) ∧ St w0 (L) w) (fun k => l.length - k) (0) [0, 3] (by kernel_rfl) ⟨⟨Nat.zero_le _, fun j hj => absurd hj (Nat.not_lt_zero _)⟩, hs⟩ ?_
    rintro k w2 ⟨hp, hs3⟩
    refine GoC.slots (S' := [(0, .slice ad l.length c), (3, .int .i64 (k : Nat))]) rfl ?_
    refine GoC.seq (GoC.seq ?_)
    refine Xt (.rd 0 (.rd 1 (.rd 2 (.rd 3 .done)))) ?_
    refine Xk [(0, .gen []), (1, .gen []), (2, .gen []), (3, .gen [])] [] [(10, .bool (decide (((k : Nat) : Int) < (l.length : Nat)))), (0, .slice ad l.length c), (3, .int .i64 (k : Nat))] ak0 ?_
    refine GoR.done (GoQ.thn ?_)
    refine Xc (t := decide (((k : Nat) : Int) < (l.length : Nat))) (fun h4 => ?_) (fun h4 => ?_)
    · have h4' : ((k : Nat) : Int) < (l.length : Nat) := of_decide_eq_true h4
      have hk : k < l.length := by omega
      have hsm := small_getD (d := dOp) hb k hk
      simp only [opSum] at hsm
      obtain ⟨ab, ao, rfl⟩ := RowsAt.isSome (hr _ hs3) (by omega)
      refine GoC.skip (GoQ.thn (GoC.seq (GoC.block (GoC.seq ?_))))
      refine GoC.regD [0, 0, 3, 7, 15, 31, 0, 0, 192, 448, 960, 1984, 4095, 0, 0, 24576, 57344, 122880, 253952, 524287, 0, 0, 3145728, 7340032, 15728640, 32505856, 67108863, 134217727] (.rd 0 (.rd 1 (.rd 2 (.rd 3 (.rd 4 (.rd 5 (.rd 6 (.rd 7 (.rd 8 (.rd 9 (.rd 10 (.rd 11 (.rd 12 (.rd 13 (.rd 14 (.rd 15 (.rd 16 (.rd 17 (.rd 18 (.rd 19 (.rd 20 (.rd 21 (.rd 22 (.rd 23 (.rd 24 (.rd 25 (.rd 26 (.rd 27 .done)))))))))))))))))))))))))))) (by kernel_rfl) (by kernel_rfl) noPan_body (by kernel_rfl) hs3 ?_
      intro w5 hs6 hw7
      refine Xk [(0, .gen []), (1, .gen []), (2, .as_ (vp ab (ao + (k * 6))) .at_), (3, .gen []), (4, .gen [.string ((l.getD k dOp).key)]), (5, .gen []), (6, .gen []), (7, .gen []), (8, .as_ (vp ab (ao + (k * 6))) .at_), (9, .gen []), (10, .gen [.string ((l.getD k dOp).value)]), (11, .gen []), (12, .as_ (.int .i64 ((((l.getD k dOp).key).size : Nat) + (((l.getD k dOp).value).size : Nat))) (.gen [])), (13, .gen []), (14, .gen []), (15, .as_ (vp ab (ao + (k * 6))) .at_), (16, .gen []), (17, .gen [.string ((l.getD k dOp).old)]), (18, .gen []), (19, .as_ (.int .i64 (((((l.getD k dOp).key).size : Nat) + (((l.getD k dOp).value).size : Nat)) + (((l.getD k dOp).old).size : Nat))) (.gen [])), (20, .gen []), (21, .gen []), (22, .as_ (vp ab (ao + (k * 6))) .at_), (23, .gen []), (24, .gen [.string ((l.getD k dOp).dest)]), (25, .gen []), (26, .as_ (.int .i64 ((((((l.getD k dOp).key).size : Nat) + (((l.getD k dOp).value).size : Nat)) + (((l.getD k dOp).old).size : Nat)) + (((l.getD k dOp).dest).size : Nat))) (.gen [])), (27, .gen [])] [(2, [.prop (0 ≤ ((k : Nat) : Int) ∧ ((k : Nat) : Int) < ((l.length : Nat) : Int)), .prop (Value.pointer (some (Addr.add ⟨ab, ao, none⟩ (Int.toNat (k : Nat) * 6))) = Value.pointer (some ⟨ab, ao + (k * 6), none⟩))]), (4, [.cell ⟨ab, ao + (k * 6) + 1, none⟩ (.string ((l.getD k dOp).key))]), (8, [.prop (0 ≤ ((k : Nat) : Int) ∧ ((k : Nat) : Int) < ((l.length : Nat) : Int)), .prop (Value.pointer (some (Addr.add ⟨ab, ao, none⟩ (Int.toNat (k : Nat) * 6))) = Value.pointer (some ⟨ab, ao + (k * 6), none⟩))]), (10, [.cell ⟨ab, ao + (k * 6) + 2, none⟩ (.string ((l.getD k dOp).value))]), (12, [.prop (Value.int .i64 (IntKind.i64.wrap ((((l.getD k dOp).key).size : Nat) + (((l.getD k dOp).value).size : Nat))) = Value.int .i64 ((((l.getD k dOp).key).size : Nat) + (((l.getD k dOp).value).size : Nat)))]), (15, [.prop (0 ≤ ((k : Nat) : Int) ∧ ((k : Nat) : Int) < ((l.length : Nat) : Int)), .prop (Value.pointer (some (Addr.add ⟨ab, ao, none⟩ (Int.toNat (k : Nat) * 6))) = Value.pointer (some ⟨ab, ao + (k * 6), none⟩))]), (17, [.cell ⟨ab, ao + (k * 6) + 3, none⟩ (.string ((l.getD k dOp).old))]), (19, [.prop (Value.int .i64 (IntKind.i64.wrap (((((l.getD k dOp).key).size : Nat) + (((l.getD k dOp).value).size : Nat)) + (((l.getD k dOp).old).size : Nat))) = Value.int .i64 (((((l.getD k dOp).key).size : Nat) + (((l.getD k dOp).value).size : Nat)) + (((l.getD k dOp).old).size : Nat)))]), (22, [.prop (0 ≤ ((k : Nat) : Int) ∧ ((k : Nat) : Int) < ((l.length : Nat) : Int)), .prop (Value.pointer (some (Addr.add ⟨ab, ao, none⟩ (Int.toNat (k : Nat) * 6))) = Value.pointer (some ⟨ab, ao + (k * 6), none⟩))]), (24, [.cell ⟨ab, ao + (k * 6) + 4, none⟩ (.string ((l.getD k dOp).dest))]), (26, [.prop (Value.int .i64 (IntKind.i64.wrap ((((((l.getD k dOp).key).size : Nat) + (((l.getD k dOp).value).size : Nat)) + (((l.getD k dOp).old).size : Nat)) + (((l.getD k dOp).dest).size : Nat))) = Value.int .i64 ((((((l.getD k dOp).key).size : Nat) + (((l.getD k dOp).value).size : Nat)) + (((l.getD k dOp).old).size : Nat)) + (((l.getD k dOp).dest).size : Nat)))])] [(40, .bool (decide (((((((l.getD k dOp).key).size : Nat) + (((l.getD k dOp).value).size : Nat)) + (((l.getD k dOp).old).size : Nat)) + (((l.getD k dOp).dest).size : Nat) : Int) > 2000))), (0, vl ab ao l.length c), (3, .int .i64 (k : Nat))] (ak (okp (by omega) (okp (ptrAdd _ _ _) ok0)) (ak (okc (RowsAt.at0 (hr _ hs6) (k := k) (by first | omega | (simp only [List.length_set]; omega) | (simp only [List.length_set, List.length_append, List.length_cons, List.length_nil]; omega)) (j := 1) (by decide) (by kernel_rfl)) ok0) (ak (okp (by omega) (okp (ptrAdd _ _ _) ok0)) (ak (okc (RowsAt.at0 (hr _ hs6) (k := k) (by first | omega | (simp only [List.length_set]; omega) | (simp only [List.length_set, List.length_append, List.length_cons, List.length_nil]; omega)) (j := 2) (by decide) (by kernel_rfl)) ok0) (ak (okp (i64ok (by omega) (by omega)) ok0) (ak (okp (by omega) (okp (ptrAdd _ _ _) ok0)) (ak (okc (RowsAt.at0 (hr _ hs6) (k := k) (by first | omega | (simp only [List.length_set]; omega) | (simp only [List.length_set, List.length_append, List.length_cons, List.length_nil]; omega)) (j := 3) (by decide) (by kernel_rfl)) ok0) (ak (okp (i64ok (by omega) (by omega)) ok0) (ak (okp (by omega) (okp (ptrAdd _ _ _) ok0)) (ak (okc (RowsAt.at0 (hr _ hs6) (k := k) (by first | omega | (simp only [List.length_set]; omega) | (simp only [List.length_set, List.length_append, List.length_cons, List.length_nil]; omega)) (j := 4) (by decide) (by kernel_rfl)) ok0) (ak (okp (i64ok (by omega) (by omega)) ok0) ak0))))))))))) ?_
      refine GoR.done (GoQ.thn ?_)
      refine Xc (t := decide (((((((l.getD k dOp).key).size : Nat) + (((l.getD k dOp).value).size : Nat)) + (((l.getD k dOp).old).size : Nat)) + (((l.getD k dOp).dest).size : Nat) : Int) > 2000)) (fun h8 => ?_) (fun h8 => ?_)
      · have h8' : ((((((l.getD k dOp).key).size : Nat) + (((l.getD k dOp).value).size : Nat)) + (((l.getD k dOp).old).size : Nat)) + (((l.getD k dOp).dest).size : Nat) : Int) > 2000 := of_decide_eq_true h8
        refine GoC.seq ?_
        refine Xt (.rd 0 .done) ?_
        refine Xk [(0, .gen [])] [] [(2, .bool false), (0, vl ab ao l.length c), (3, .int .i64 (k : Nat))] ak0 ?_
        refine GoR.done (GoQ.thn (GoC.ret (GoQ.blkR (GoQ.skipCR (GoQ.skipLR (GoQ.blkR (GoQ.skipCR ?_)))))))
        refine X1 (v := .bool false) ?_
        exact ⟨by rw [few_false2 (d := dOp) hk (by simp only [opSum]; omega)], hs6⟩
      · have h8' : ¬ (((((((l.getD k dOp).key).size : Nat) + (((l.getD k dOp).value).size : Nat)) + (((l.getD k dOp).old).size : Nat)) + (((l.getD k dOp).dest).size : Nat) : Int) > 2000) := of_decide_eq_false h8
        refine GoC.skip (GoQ.blkN (GoQ.thn ?_))
        refine Xt (.rd 0 (.rd 1 (.rd 2 .done))) ?_
        refine Xk [(0, .gen []), (1, .as_ (.int .i64 ((k : Nat) + 1)) (.gen [])), (2, .gen [])] [(1, [.prop (Value.int .i64 (IntKind.i64.wrap ((k : Nat) + 1)) = Value.int .i64 ((k : Nat) + 1))])] [(3, .int .i64 ((k : Nat) + 1)), (0, vl ab ao l.length c)] (ak (okp (i64ok (by omega) (by omega)) ok0) ak0) ?_
        refine GoR.done ?_
        exact GoQ.back (k + 1) [0, 3] (by kernel_rfl) (by omega) ⟨⟨by omega, fun j hj => (Nat.lt_succ_iff_lt_or_eq.1 hj).elim (fun h => hp.2 j h) (fun e => by subst e; simp only [opSum]; omega)⟩, hs6⟩
    · have h4' : ¬ (((k : Nat) : Int) < (l.length : Nat)) := of_decide_eq_false h4
      refine GoC.exit (GoQ.skipC (GoQ.skipL (GoQ.hit (GoQ.thn (GoC.seq ?_)))))
      refine Xt (.rd 0 .done) ?_
      refine Xk [(0, .gen [])] [] [(2, .bool true)] ak0 ?_
      refine GoR.done (GoQ.thn (GoC.ret ?_))
      refine X1 (v := .bool true) ?_
      exact ⟨by rw [few_true (d := dOp) h150 (fun j hj => hp.2 j (by omega))], hs3⟩
end Go.Proofs.YtbmmknchcdhefaaGreatDoor
