/-
  The laws of layer 9: Few, works.
-/
import Derived.Test.YtkeckbgkhpaofaaDoorProg
import Derived.Test.YtkeckbgkhpaofaaDoorLedE
namespace Go.Proofs.YtkeckbgkhpaofaaDoor
open Go.RowKit Go.Sx
set_option linter.unusedVariables false
set_option linter.unusedSimpArgs false
set_option linter.unnecessarySimpa false
set_option maxRecDepth 100000
theorem opF : CellF OpV.cells 6 := ⟨fun _ => rfl, fun _ => rfl⟩
def opSum (o : OpV) : Nat := o.key.size + o.value.size + o.old.size + o.dest.size
def few (l : List OpV) : Bool := decide (l.length ≤ 150) && l.all fun o => decide (opSum o ≤ 2000)
theorem few_false1 {l : List OpV} (h : ¬ l.length ≤ 150) : few l = false := by simp [few, h]
theorem few_false2 {l : List OpV} {k : Nat} {d : OpV} (hk : k < l.length) (h : 2000 < opSum (l.getD k d)) : few l = false := by
  have h1 : ∃ x ∈ l, 2000 < opSum x := ⟨l[k], List.getElem_mem hk, by simpa [List.getD_eq_getElem?_getD, List.getElem?_eq_getElem hk] using h⟩
  obtain ⟨x, hx, h2⟩ := h1
  have h3 : (l.all fun o => decide (opSum o ≤ 2000)) = false := by
    rw [List.all_eq_false]
    exact ⟨x, hx, by simp; omega⟩
  rw [few, h3, Bool.and_false]
theorem few_true {l : List OpV} {d : OpV} (h1 : l.length ≤ 150) (h : ∀ j, j < l.length → opSum (l.getD j d) ≤ 2000) : few l = true := by
  have h3 : (l.all fun o => decide (opSum o ≤ 2000)) = true := by
    rw [List.all_eq_true]
    intro x hx
    obtain ⟨j, hj, rfl⟩ := List.getElem_of_mem hx
    have := h j hj
    simpa [List.getD_eq_getElem?_getD, List.getElem?_eq_getElem hj] using this
  rw [few, h3, Bool.and_true]
  simpa using h1
def Small (o : OpV) : Prop := opSum o ≤ 1000000000000000
theorem small_getD {l : List OpV} {d : OpV} (h : ∀ o ∈ l, Small o) (k : Nat) (hk : k < l.length) : opSum (l.getD k d) ≤ 1000000000000000 := by
  have : l.getD k d = l[k] := by simp [List.getD_eq_getElem?_getD, List.getElem?_eq_getElem hk]
  rw [this]
  exact h _ (List.getElem_mem hk)
set_option maxHeartbeats 400000 in
theorem few_spec {w0 w : World} {L : List Asn} {ad : Option Addr} {c : Nat} (l : List OpV) (hb : ∀ o ∈ l, Small o) (hln : l.length ≤ 1000000000000000) (hr : ∀ w, St w0 L w → RowsAt w ad l.length 6 (fun k => OpV.cells (l.getD k dOp))) (hs : St w0 L w) : Calls Tryd.prog 20 #[.slice ad l.length c] w (Ret fun rv w' => rv = .bool (few l) ∧ St w0 L w') := by
  refine enter (args := [.slice ad l.length c]) Tryd.func20 rfl Tryd.ntmps20 (Nat.le_of_ble_eq_true (by kernel_rfl)) ?_
  refine GoC.slots (S' := [(0, .slice ad l.length c)]) rfl ?_
  refine GoC.seq ?_
  refine GoC.regT [1] (.rd 0 .done) (by kernel_rfl) (by kernel_rfl) ?_
  refine GoR.phaseK [(0, .gen [])] [2, 0] [] [(2, .bool false), (0, .slice ad l.length c)] (by kernel_rfl) rfl ak0 ?_
  refine GoR.done (GoQ.thn (GoC.seq (GoC.seq ?_)))
  refine GoC.regT [7, 7, 7] (.rd 0 (.rd 1 (.rd 2 .done))) (by kernel_rfl) (by kernel_rfl) ?_
  refine GoR.phaseK [(0, .gen []), (1, .gen []), (2, .gen [])] [6, 2, 0] [] [(6, .bool (decide (((l.length : Nat) : Int) > 150))), (2, .bool false), (0, .slice ad l.length c)] (by kernel_rfl) rfl ak0 ?_
  refine GoR.done (GoQ.thn ?_)
  refine GoC.cond (t := decide (((l.length : Nat) : Int) > 150)) (by kernel_rfl) (fun h1 => ?_) (fun h1 => ?_)
  · have h1' : ((l.length : Nat) : Int) > 150 := of_decide_eq_true h1
    refine GoC.seq ?_
    refine GoC.regT [1] (.rd 0 .done) (by kernel_rfl) (by kernel_rfl) ?_
    refine GoR.phaseK [(0, .gen [])] [2, 0] [] [(2, .bool false), (0, .slice ad l.length c)] (by kernel_rfl) rfl ak0 ?_
    refine GoR.done (GoQ.thn (GoC.ret (GoQ.skipCR ?_)))
    refine GoQ.done (.inl rfl) (v := .bool false) (fun a hf => results1 rfl (by kernel_rfl) a hf) ?_
    exact ⟨by rw [few_false1 (by omega)], hs⟩
  · have h1' : ¬ (((l.length : Nat) : Int) > 150) := of_decide_eq_false h1
    refine GoC.skip (GoQ.thn (GoC.seq (GoC.seq ?_)))
    refine GoC.regT [1] (.rd 0 .done) (by kernel_rfl) (by kernel_rfl) ?_
    refine GoR.phaseK [(0, .gen [])] [3, 2, 0] [] [(3, .int .i64 0), (2, .bool false), (0, .slice ad l.length c)] (by kernel_rfl) rfl ak0 ?_
    refine GoR.done (GoQ.thn (GoC.block ?_))
    have h150 : l.length ≤ 150 := by omega
    refine GoC.loop (T := Nat) (fun k => [(0, .slice ad l.length c), (3, .int .i64 (k : Nat))]) (fun k w => (k ≤ l.length ∧ ∀ j, j < k → opSum (l.getD j dOp) ≤ 2000) ∧ St w0 (L) w) (fun k => l.length - k) (0) [0, 3] (by kernel_rfl) ⟨⟨Nat.zero_le _, fun j hj => absurd hj (Nat.not_lt_zero _)⟩, hs⟩ ?_
    rintro k w2 ⟨hp, hs3⟩
    refine GoC.slots (S' := [(0, .slice ad l.length c), (3, .int .i64 (k : Nat))]) rfl ?_
    refine GoC.seq (GoC.seq ?_)
    refine GoC.regT [15, 15, 15, 15] (.rd 0 (.rd 1 (.rd 2 (.rd 3 .done)))) (by kernel_rfl) (by kernel_rfl) ?_
    refine GoR.phaseK [(0, .gen []), (1, .gen []), (2, .gen []), (3, .gen [])] [10, 0, 3] [] [(10, .bool (decide (((k : Nat) : Int) < (l.length : Nat)))), (0, .slice ad l.length c), (3, .int .i64 (k : Nat))] (by kernel_rfl) rfl ak0 ?_
    refine GoR.done (GoQ.thn ?_)
    refine GoC.cond (t := decide (((k : Nat) : Int) < (l.length : Nat))) (by kernel_rfl) (fun h4 => ?_) (fun h4 => ?_)
    · have h4' : ((k : Nat) : Int) < (l.length : Nat) := of_decide_eq_true h4
      have hk : k < l.length := by omega
      have hsm := small_getD (d := dOp) hb k hk
      simp only [opSum] at hsm
      obtain ⟨ab, ao, rfl⟩ := RowsAt.isSome (hr _ hs3) (by omega)
      refine GoC.skip (GoQ.thn (GoC.seq (GoC.block (GoC.seq ?_))))
      refine GoC.regD [0, 0, 3, 7, 15, 31, 0, 0, 192, 448, 960, 1984, 4095, 0, 0, 24576, 57344, 122880, 253952, 524287, 0, 0, 3145728, 7340032, 15728640, 32505856, 67108863, 134217727] (.rd 0 (.rd 1 (.rd 2 (.rd 3 (.rd 4 (.rd 5 (.rd 6 (.rd 7 (.rd 8 (.rd 9 (.rd 10 (.rd 11 (.rd 12 (.rd 13 (.rd 14 (.rd 15 (.rd 16 (.rd 17 (.rd 18 (.rd 19 (.rd 20 (.rd 21 (.rd 22 (.rd 23 (.rd 24 (.rd 25 (.rd 26 (.rd 27 .done)))))))))))))))))))))))))))) (by kernel_rfl) (by kernel_rfl) noPan_body (by kernel_rfl) hs3 ?_
      intro w5 hs6 hw7
      refine GoR.phaseK [(0, .gen []), (1, .gen []), (2, .as_ (.pointer (some ⟨ab, ao + (k * 6), none⟩)) .at_), (3, .gen []), (4, .gen [.string ((l.getD k dOp).key)]), (5, .gen []), (6, .gen []), (7, .gen []), (8, .as_ (.pointer (some ⟨ab, ao + (k * 6), none⟩)) .at_), (9, .gen []), (10, .gen [.string ((l.getD k dOp).value)]), (11, .gen []), (12, .as_ (.int .i64 ((((l.getD k dOp).key).size : Nat) + (((l.getD k dOp).value).size : Nat))) (.gen [])), (13, .gen []), (14, .gen []), (15, .as_ (.pointer (some ⟨ab, ao + (k * 6), none⟩)) .at_), (16, .gen []), (17, .gen [.string ((l.getD k dOp).old)]), (18, .gen []), (19, .as_ (.int .i64 (((((l.getD k dOp).key).size : Nat) + (((l.getD k dOp).value).size : Nat)) + (((l.getD k dOp).old).size : Nat))) (.gen [])), (20, .gen []), (21, .gen []), (22, .as_ (.pointer (some ⟨ab, ao + (k * 6), none⟩)) .at_), (23, .gen []), (24, .gen [.string ((l.getD k dOp).dest)]), (25, .gen []), (26, .as_ (.int .i64 ((((((l.getD k dOp).key).size : Nat) + (((l.getD k dOp).value).size : Nat)) + (((l.getD k dOp).old).size : Nat)) + (((l.getD k dOp).dest).size : Nat))) (.gen [])), (27, .gen [])] [40, 0, 3] [(2, [.prop (0 ≤ ((k : Nat) : Int) ∧ ((k : Nat) : Int) < ((l.length : Nat) : Int)), .prop (Value.pointer (some (Addr.add ⟨ab, ao, none⟩ (Int.toNat (k : Nat) * 6))) = Value.pointer (some ⟨ab, ao + (k * 6), none⟩))]), (4, [.cell ⟨ab, ao + (k * 6) + 1, none⟩ (.string ((l.getD k dOp).key))]), (8, [.prop (0 ≤ ((k : Nat) : Int) ∧ ((k : Nat) : Int) < ((l.length : Nat) : Int)), .prop (Value.pointer (some (Addr.add ⟨ab, ao, none⟩ (Int.toNat (k : Nat) * 6))) = Value.pointer (some ⟨ab, ao + (k * 6), none⟩))]), (10, [.cell ⟨ab, ao + (k * 6) + 2, none⟩ (.string ((l.getD k dOp).value))]), (12, [.prop (Value.int .i64 (IntKind.i64.wrap ((((l.getD k dOp).key).size : Nat) + (((l.getD k dOp).value).size : Nat))) = Value.int .i64 ((((l.getD k dOp).key).size : Nat) + (((l.getD k dOp).value).size : Nat)))]), (15, [.prop (0 ≤ ((k : Nat) : Int) ∧ ((k : Nat) : Int) < ((l.length : Nat) : Int)), .prop (Value.pointer (some (Addr.add ⟨ab, ao, none⟩ (Int.toNat (k : Nat) * 6))) = Value.pointer (some ⟨ab, ao + (k * 6), none⟩))]), (17, [.cell ⟨ab, ao + (k * 6) + 3, none⟩ (.string ((l.getD k dOp).old))]), (19, [.prop (Value.int .i64 (IntKind.i64.wrap (((((l.getD k dOp).key).size : Nat) + (((l.getD k dOp).value).size : Nat)) + (((l.getD k dOp).old).size : Nat))) = Value.int .i64 (((((l.getD k dOp).key).size : Nat) + (((l.getD k dOp).value).size : Nat)) + (((l.getD k dOp).old).size : Nat)))]), (22, [.prop (0 ≤ ((k : Nat) : Int) ∧ ((k : Nat) : Int) < ((l.length : Nat) : Int)), .prop (Value.pointer (some (Addr.add ⟨ab, ao, none⟩ (Int.toNat (k : Nat) * 6))) = Value.pointer (some ⟨ab, ao + (k * 6), none⟩))]), (24, [.cell ⟨ab, ao + (k * 6) + 4, none⟩ (.string ((l.getD k dOp).dest))]), (26, [.prop (Value.int .i64 (IntKind.i64.wrap ((((((l.getD k dOp).key).size : Nat) + (((l.getD k dOp).value).size : Nat)) + (((l.getD k dOp).old).size : Nat)) + (((l.getD k dOp).dest).size : Nat))) = Value.int .i64 ((((((l.getD k dOp).key).size : Nat) + (((l.getD k dOp).value).size : Nat)) + (((l.getD k dOp).old).size : Nat)) + (((l.getD k dOp).dest).size : Nat)))])] [(40, .bool (decide (((((((l.getD k dOp).key).size : Nat) + (((l.getD k dOp).value).size : Nat)) + (((l.getD k dOp).old).size : Nat)) + (((l.getD k dOp).dest).size : Nat) : Int) > 2000))), (0, .slice (some ⟨ab, ao, none⟩) l.length c), (3, .int .i64 (k : Nat))] (by kernel_rfl) rfl (ak (okp (by omega) (okp (ptrAdd _ _ _) ok0)) (ak (okc (RowsAt.at0 (hr _ hs6) (by first | omega | (simp only [List.length_set]; omega)) (j := 1) (by decide) (by kernel_rfl)) ok0) (ak (okp (by omega) (okp (ptrAdd _ _ _) ok0)) (ak (okc (RowsAt.at0 (hr _ hs6) (by first | omega | (simp only [List.length_set]; omega)) (j := 2) (by decide) (by kernel_rfl)) ok0) (ak (okp (i64ok (by omega) (by omega)) ok0) (ak (okp (by omega) (okp (ptrAdd _ _ _) ok0)) (ak (okc (RowsAt.at0 (hr _ hs6) (by first | omega | (simp only [List.length_set]; omega)) (j := 3) (by decide) (by kernel_rfl)) ok0) (ak (okp (i64ok (by omega) (by omega)) ok0) (ak (okp (by omega) (okp (ptrAdd _ _ _) ok0)) (ak (okc (RowsAt.at0 (hr _ hs6) (by first | omega | (simp only [List.length_set]; omega)) (j := 4) (by decide) (by kernel_rfl)) ok0) (ak (okp (i64ok (by omega) (by omega)) ok0) ak0))))))))))) ?_
      refine GoR.done (GoQ.thn ?_)
      refine GoC.cond (t := decide (((((((l.getD k dOp).key).size : Nat) + (((l.getD k dOp).value).size : Nat)) + (((l.getD k dOp).old).size : Nat)) + (((l.getD k dOp).dest).size : Nat) : Int) > 2000)) (by kernel_rfl) (fun h8 => ?_) (fun h8 => ?_)
      · have h8' : ((((((l.getD k dOp).key).size : Nat) + (((l.getD k dOp).value).size : Nat)) + (((l.getD k dOp).old).size : Nat)) + (((l.getD k dOp).dest).size : Nat) : Int) > 2000 := of_decide_eq_true h8
        refine GoC.seq ?_
        refine GoC.regT [1] (.rd 0 .done) (by kernel_rfl) (by kernel_rfl) ?_
        refine GoR.phaseK [(0, .gen [])] [2, 0, 3] [] [(2, .bool false), (0, .slice (some ⟨ab, ao, none⟩) l.length c), (3, .int .i64 (k : Nat))] (by kernel_rfl) rfl ak0 ?_
        refine GoR.done (GoQ.thn (GoC.ret (GoQ.blkR (GoQ.skipCR (GoQ.skipLR (GoQ.blkR (GoQ.skipCR ?_)))))))
        refine GoQ.done (.inl rfl) (v := .bool false) (fun a hf => results1 rfl (by kernel_rfl) a hf) ?_
        exact ⟨by rw [few_false2 (d := dOp) hk (by simp only [opSum]; omega)], hs6⟩
      · have h8' : ¬ (((((((l.getD k dOp).key).size : Nat) + (((l.getD k dOp).value).size : Nat)) + (((l.getD k dOp).old).size : Nat)) + (((l.getD k dOp).dest).size : Nat) : Int) > 2000) := of_decide_eq_false h8
        refine GoC.skip (GoQ.blkN (GoQ.thn ?_))
        refine GoC.regT [7, 7, 7] (.rd 0 (.rd 1 (.rd 2 .done))) (by kernel_rfl) (by kernel_rfl) ?_
        refine GoR.phaseK [(0, .gen []), (1, .as_ (.int .i64 ((k : Nat) + 1)) (.gen [])), (2, .gen [])] [3, 0] [(1, [.prop (Value.int .i64 (IntKind.i64.wrap ((k : Nat) + 1)) = Value.int .i64 ((k : Nat) + 1))])] [(3, .int .i64 ((k : Nat) + 1)), (0, .slice (some ⟨ab, ao, none⟩) l.length c)] (by kernel_rfl) rfl (ak (okp (i64ok (by omega) (by omega)) ok0) ak0) ?_
        refine GoR.done ?_
        exact GoQ.back (k + 1) [0, 3] (by kernel_rfl) (by omega) ⟨⟨by omega, fun j hj => (Nat.lt_succ_iff_lt_or_eq.1 hj).elim (fun h => hp.2 j h) (fun e => by subst e; simp only [opSum]; omega)⟩, hs6⟩
    · have h4' : ¬ (((k : Nat) : Int) < (l.length : Nat)) := of_decide_eq_false h4
      refine GoC.exit (GoQ.skipC (GoQ.skipL (GoQ.hit (GoQ.thn (GoC.seq ?_)))))
      refine GoC.regT [1] (.rd 0 .done) (by kernel_rfl) (by kernel_rfl) ?_
      refine GoR.phaseK [(0, .gen [])] [2] [] [(2, .bool true)] (by kernel_rfl) rfl ak0 ?_
      refine GoR.done (GoQ.thn (GoC.ret ?_))
      refine GoQ.done (.inl rfl) (v := .bool true) (fun a hf => results1 rfl (by kernel_rfl) a hf) ?_
      exact ⟨by rw [few_true (d := dOp) h150 (fun j hj => hp.2 j (by omega))], hs3⟩
theorem works0 : ldo ([] : List (ByteArray × ByteArray)) (⟨2, (⟨#[97]⟩ : ByteArray), (⟨#[49, 48]⟩ : ByteArray), (⟨#[]⟩ : ByteArray), (⟨#[]⟩ : ByteArray), 0⟩ : OpV) = ((⟨0, (⟨#[]⟩ : ByteArray)⟩ : RepV), ([((⟨#[97]⟩ : ByteArray), (⟨#[49, 48]⟩ : ByteArray))] : List (ByteArray × ByteArray))) := by decide +kernel
theorem works1 : ldo ([((⟨#[97]⟩ : ByteArray), (⟨#[49, 48]⟩ : ByteArray))] : List (ByteArray × ByteArray)) (⟨5, (⟨#[97]⟩ : ByteArray), (⟨#[]⟩ : ByteArray), (⟨#[]⟩ : ByteArray), (⟨#[98]⟩ : ByteArray), 4⟩ : OpV) = ((⟨0, (⟨#[54]⟩ : ByteArray)⟩ : RepV), ([((⟨#[97]⟩ : ByteArray), (⟨#[54]⟩ : ByteArray)), ((⟨#[98]⟩ : ByteArray), (⟨#[52]⟩ : ByteArray))] : List (ByteArray × ByteArray))) := by decide +kernel
theorem works2 : ldo ([((⟨#[97]⟩ : ByteArray), (⟨#[54]⟩ : ByteArray)), ((⟨#[98]⟩ : ByteArray), (⟨#[52]⟩ : ByteArray))] : List (ByteArray × ByteArray)) (⟨1, (⟨#[98]⟩ : ByteArray), (⟨#[]⟩ : ByteArray), (⟨#[]⟩ : ByteArray), (⟨#[]⟩ : ByteArray), 0⟩ : OpV) = ((⟨0, (⟨#[52]⟩ : ByteArray)⟩ : RepV), ([((⟨#[97]⟩ : ByteArray), (⟨#[54]⟩ : ByteArray)), ((⟨#[98]⟩ : ByteArray), (⟨#[52]⟩ : ByteArray))] : List (ByteArray × ByteArray))) := by decide +kernel
theorem works3 : ldo ([((⟨#[97]⟩ : ByteArray), (⟨#[54]⟩ : ByteArray)), ((⟨#[98]⟩ : ByteArray), (⟨#[52]⟩ : ByteArray))] : List (ByteArray × ByteArray)) (⟨5, (⟨#[98]⟩ : ByteArray), (⟨#[]⟩ : ByteArray), (⟨#[]⟩ : ByteArray), (⟨#[97]⟩ : ByteArray), 5⟩ : OpV) = ((⟨14, (⟨#[52]⟩ : ByteArray)⟩ : RepV), ([((⟨#[97]⟩ : ByteArray), (⟨#[54]⟩ : ByteArray)), ((⟨#[98]⟩ : ByteArray), (⟨#[52]⟩ : ByteArray))] : List (ByteArray × ByteArray))) := by decide +kernel
theorem works4 : ldo ([((⟨#[97]⟩ : ByteArray), (⟨#[54]⟩ : ByteArray)), ((⟨#[98]⟩ : ByteArray), (⟨#[52]⟩ : ByteArray))] : List (ByteArray × ByteArray)) (⟨4, (⟨#[98]⟩ : ByteArray), (⟨#[120]⟩ : ByteArray), (⟨#[51]⟩ : ByteArray), (⟨#[]⟩ : ByteArray), 0⟩ : OpV) = ((⟨15, (⟨#[52]⟩ : ByteArray)⟩ : RepV), ([((⟨#[97]⟩ : ByteArray), (⟨#[54]⟩ : ByteArray)), ((⟨#[98]⟩ : ByteArray), (⟨#[52]⟩ : ByteArray))] : List (ByteArray × ByteArray))) := by decide +kernel
theorem shortAll {m : List (ByteArray × ByteArray)} (h : m.all (fun x => decide (x.2.size ≤ 281474976710656)) = true) : Short m := fun x hx => by simpa using List.all_eq_true.1 h x hx
theorem works_spec {w0 w : World} {L : List Asn} (hL : ∀ w, St w0 L w → Laid w) (hs : St w0 L w) : Calls Tryd.prog 21 #[] w (Ret fun rv w' => rv = .bool true ∧ St w0 L w') := by
  refine enter (args := []) Tryd.func21 rfl Tryd.ntmps21 (Nat.le_of_ble_eq_true (by kernel_rfl)) ?_
  refine GoC.slots (S' := []) rfl ?_
  refine GoC.seq ?_
  refine GoC.regT [1] (.rd 0 .done) (by kernel_rfl) (by kernel_rfl) ?_
  refine GoR.phaseK [(0, .gen [])] [0] [] [(0, .bool false)] (by kernel_rfl) rfl ak0 ?_
  refine GoR.done (GoQ.thn (GoC.seq ?_))
  refine GoC.regT [3, 3] (.ef 0 (.rd 1 .done)) (by kernel_rfl) (by kernel_rfl) ?_
  refine GoR.call rfl rfl (by kernel_rfl) (f := 16) (args := #[]) (by kernel_rfl) Tryd.call16 (new_spec hs) ?_
  rintro v4 w5 ⟨p1, r2, rfl, hs3⟩
  refine ⟨(opn (by kernel_rfl)), ?_⟩
  refine GoR.phaseK [(1, .gen [])] [1, 0] [] [(1, .pointer (some ⟨p1, 0, none⟩)), (0, .bool false)] (by kernel_rfl) rfl ak0 ?_
  refine GoR.done (GoQ.thn (GoC.seq ?_))
  refine GoC.regT [7, 7, 7] (.rd 0 (.rd 1 (.ef 2 .done))) (by kernel_rfl) (by kernel_rfl) ?_
  refine GoR.phaseK [(0, .gen []), (1, .gen [])] [8, 7, 1, 0] [] [(8, .agg #[.int .u8 2, .string (⟨#[97]⟩ : ByteArray), .string (⟨#[49, 48]⟩ : ByteArray), .string (⟨#[]⟩ : ByteArray), .string (⟨#[]⟩ : ByteArray), .int .u64 0]), (7, .pointer (some ⟨p1, 0, none⟩)), (1, .pointer (some ⟨p1, 0, none⟩)), (0, .bool false)] (by kernel_rfl) rfl ak0 ?_
  refine GoR.call rfl rfl (by kernel_rfl) (f := 22) (args := #[.pointer (some ⟨p1, 0, none⟩), .agg #[.int .u8 2, .string (⟨#[97]⟩ : ByteArray), .string (⟨#[49, 48]⟩ : ByteArray), .string (⟨#[]⟩ : ByteArray), .string (⟨#[]⟩ : ByteArray), .int .u64 0]]) (by kernel_rfl) Tryd.call22 (ldo_spec ([] : List (ByteArray × ByteArray)) (⟨2, (⟨#[97]⟩ : ByteArray), (⟨#[49, 48]⟩ : ByteArray), (⟨#[]⟩ : ByteArray), (⟨#[]⟩ : ByteArray), 0⟩ : OpV) (shortAll (by decide +kernel)) (fun w h => hL w (h.drop 0)) (by decide) hs3) ?_
  rintro hv7x w9 ⟨hv7, hs6⟩
  rw [works0] at hv7 hs6
  subst hv7
  refine ⟨(opn (by kernel_rfl)), ?_⟩
  refine GoR.done (GoQ.thn (GoC.seq ?_))
  refine GoC.regT [31, 31, 31, 31, 31] (.rd 0 (.rd 1 (.ef 2 (.ef 3 (.ef 4 .done))))) (by kernel_rfl) (by kernel_rfl) ?_
  refine GoR.phaseK [(0, .gen []), (1, .gen [])] [11, 10, 1, 0] [] [(11, .agg #[.int .u8 5, .string (⟨#[97]⟩ : ByteArray), .string (⟨#[]⟩ : ByteArray), .string (⟨#[]⟩ : ByteArray), .string (⟨#[98]⟩ : ByteArray), .int .u64 4]), (10, .pointer (some ⟨p1, 0, none⟩)), (1, .pointer (some ⟨p1, 0, none⟩)), (0, .bool false)] (by kernel_rfl) rfl ak0 ?_
  refine GoR.call rfl rfl (by kernel_rfl) (f := 22) (args := #[.pointer (some ⟨p1, 0, none⟩), .agg #[.int .u8 5, .string (⟨#[97]⟩ : ByteArray), .string (⟨#[]⟩ : ByteArray), .string (⟨#[]⟩ : ByteArray), .string (⟨#[98]⟩ : ByteArray), .int .u64 4]]) (by kernel_rfl) Tryd.call22 (ldo_spec ([((⟨#[97]⟩ : ByteArray), (⟨#[49, 48]⟩ : ByteArray))] : List (ByteArray × ByteArray)) (⟨5, (⟨#[97]⟩ : ByteArray), (⟨#[]⟩ : ByteArray), (⟨#[]⟩ : ByteArray), (⟨#[98]⟩ : ByteArray), 4⟩ : OpV) (shortAll (by decide +kernel)) (fun w h => hL w (h.drop 0)) (by decide) hs6) ?_
  rintro hv11x w13 ⟨hv11, hs10⟩
  rw [works1] at hv11 hs10
  subst hv11
  refine ⟨(opn (by kernel_rfl)), ?_⟩
  refine GoR.alloc rfl rfl (by kernel_rfl) (z := .agg #[.int .i64 0, .string (⟨#[]⟩ : ByteArray)]) (by kernel_rfl) hs10 (cs := #[.int .i64 0, .string (⟨#[]⟩ : ByteArray)]) (by kernel_rfl) ?_
  intro b14 w15 hs16
  refine ⟨(opn (by kernel_rfl)), ?_⟩
  refine GoR.store rfl rfl (by kernel_rfl) (b := b14) (off := 0) (v := .agg (RepV.cells (⟨0, (⟨#[54]⟩ : ByteArray)⟩ : RepV))) (by kernel_rfl) (by kernel_rfl) (ti := Tryd.t34) (by kernel_rfl) hs16 0 rfl (by kernel_rfl) (by kernel_rfl) (Nat.le_of_ble_eq_true (by kernel_rfl)) (cs' := RepV.cells (⟨0, (⟨#[54]⟩ : ByteArray)⟩ : RepV)) (L' := (Cel b14 (RepV.cells (⟨0, (⟨#[54]⟩ : ByteArray)⟩ : RepV)) 34) :: (Cel p1 #[.map (some r2)] 89) :: (MapA Value.string Value.string r2 ([((⟨#[97]⟩ : ByteArray), (⟨#[54]⟩ : ByteArray)), ((⟨#[98]⟩ : ByteArray), (⟨#[52]⟩ : ByteArray))] : List (ByteArray × ByteArray))) :: L) (by kernel_rfl) rfl ?_
  intro w17 hs18
  refine ⟨(opn (by kernel_rfl)), ?_⟩
  refine GoR.done (GoQ.thn (GoC.seq ?_))
  refine GoC.regT [31, 31, 31, 31, 31] (.rd 0 (.rd 1 (.ef 2 (.ef 3 (.ef 4 .done))))) (by kernel_rfl) (by kernel_rfl) ?_
  refine GoR.phaseK [(0, .gen []), (1, .gen [])] [14, 13, 2, 1, 0] [] [(14, .agg #[.int .u8 1, .string (⟨#[98]⟩ : ByteArray), .string (⟨#[]⟩ : ByteArray), .string (⟨#[]⟩ : ByteArray), .string (⟨#[]⟩ : ByteArray), .int .u64 0]), (13, .pointer (some ⟨p1, 0, none⟩)), (2, .pointer (some ⟨b14, 0, none⟩)), (1, .pointer (some ⟨p1, 0, none⟩)), (0, .bool false)] (by kernel_rfl) rfl ak0 ?_
  have hs19 : St w0 ((Cel p1 #[.map (some r2)] 89) :: (MapA Value.string Value.string r2 ([((⟨#[97]⟩ : ByteArray), (⟨#[54]⟩ : ByteArray)), ((⟨#[98]⟩ : ByteArray), (⟨#[52]⟩ : ByteArray))] : List (ByteArray × ByteArray))) :: (Cel b14 (RepV.cells (⟨0, (⟨#[54]⟩ : ByteArray)⟩ : RepV)) 34) :: L) w17 := ((hs18.pull 2 rfl).pull 2 rfl)
  refine GoR.call rfl rfl (by kernel_rfl) (f := 22) (args := #[.pointer (some ⟨p1, 0, none⟩), .agg #[.int .u8 1, .string (⟨#[98]⟩ : ByteArray), .string (⟨#[]⟩ : ByteArray), .string (⟨#[]⟩ : ByteArray), .string (⟨#[]⟩ : ByteArray), .int .u64 0]]) (by kernel_rfl) Tryd.call22 (ldo_spec ([((⟨#[97]⟩ : ByteArray), (⟨#[54]⟩ : ByteArray)), ((⟨#[98]⟩ : ByteArray), (⟨#[52]⟩ : ByteArray))] : List (ByteArray × ByteArray)) (⟨1, (⟨#[98]⟩ : ByteArray), (⟨#[]⟩ : ByteArray), (⟨#[]⟩ : ByteArray), (⟨#[]⟩ : ByteArray), 0⟩ : OpV) (shortAll (by decide +kernel)) (fun w h => hL w (h.drop 1)) (by decide) hs19) ?_
  rintro hv21x w23 ⟨hv21, hs20⟩
  rw [works2] at hv21 hs20
  subst hv21
  refine ⟨(opn (by kernel_rfl)), ?_⟩
  refine GoR.alloc rfl rfl (by kernel_rfl) (z := .agg #[.int .i64 0, .string (⟨#[]⟩ : ByteArray)]) (by kernel_rfl) hs20 (cs := #[.int .i64 0, .string (⟨#[]⟩ : ByteArray)]) (by kernel_rfl) ?_
  intro b24 w25 hs26
  refine ⟨(opn (by kernel_rfl)), ?_⟩
  refine GoR.store rfl rfl (by kernel_rfl) (b := b24) (off := 0) (v := .agg (RepV.cells (⟨0, (⟨#[52]⟩ : ByteArray)⟩ : RepV))) (by kernel_rfl) (by kernel_rfl) (ti := Tryd.t34) (by kernel_rfl) hs26 0 rfl (by kernel_rfl) (by kernel_rfl) (Nat.le_of_ble_eq_true (by kernel_rfl)) (cs' := RepV.cells (⟨0, (⟨#[52]⟩ : ByteArray)⟩ : RepV)) (L' := (Cel b24 (RepV.cells (⟨0, (⟨#[52]⟩ : ByteArray)⟩ : RepV)) 34) :: (Cel p1 #[.map (some r2)] 89) :: (MapA Value.string Value.string r2 ([((⟨#[97]⟩ : ByteArray), (⟨#[54]⟩ : ByteArray)), ((⟨#[98]⟩ : ByteArray), (⟨#[52]⟩ : ByteArray))] : List (ByteArray × ByteArray))) :: (Cel b14 (RepV.cells (⟨0, (⟨#[54]⟩ : ByteArray)⟩ : RepV)) 34) :: L) (by kernel_rfl) rfl ?_
  intro w27 hs28
  refine ⟨(opn (by kernel_rfl)), ?_⟩
  refine GoR.done (GoQ.thn (GoC.seq ?_))
  refine GoC.regT [31, 31, 31, 31, 31] (.rd 0 (.rd 1 (.ef 2 (.ef 3 (.ef 4 .done))))) (by kernel_rfl) (by kernel_rfl) ?_
  refine GoR.phaseK [(0, .gen []), (1, .gen [])] [17, 16, 3, 2, 1, 0] [] [(17, .agg #[.int .u8 5, .string (⟨#[98]⟩ : ByteArray), .string (⟨#[]⟩ : ByteArray), .string (⟨#[]⟩ : ByteArray), .string (⟨#[97]⟩ : ByteArray), .int .u64 5]), (16, .pointer (some ⟨p1, 0, none⟩)), (3, .pointer (some ⟨b24, 0, none⟩)), (2, .pointer (some ⟨b14, 0, none⟩)), (1, .pointer (some ⟨p1, 0, none⟩)), (0, .bool false)] (by kernel_rfl) rfl ak0 ?_
  have hs29 : St w0 ((Cel p1 #[.map (some r2)] 89) :: (MapA Value.string Value.string r2 ([((⟨#[97]⟩ : ByteArray), (⟨#[54]⟩ : ByteArray)), ((⟨#[98]⟩ : ByteArray), (⟨#[52]⟩ : ByteArray))] : List (ByteArray × ByteArray))) :: (Cel b24 (RepV.cells (⟨0, (⟨#[52]⟩ : ByteArray)⟩ : RepV)) 34) :: (Cel b14 (RepV.cells (⟨0, (⟨#[54]⟩ : ByteArray)⟩ : RepV)) 34) :: L) w27 := ((hs28.pull 2 rfl).pull 2 rfl)
  refine GoR.call rfl rfl (by kernel_rfl) (f := 22) (args := #[.pointer (some ⟨p1, 0, none⟩), .agg #[.int .u8 5, .string (⟨#[98]⟩ : ByteArray), .string (⟨#[]⟩ : ByteArray), .string (⟨#[]⟩ : ByteArray), .string (⟨#[97]⟩ : ByteArray), .int .u64 5]]) (by kernel_rfl) Tryd.call22 (ldo_spec ([((⟨#[97]⟩ : ByteArray), (⟨#[54]⟩ : ByteArray)), ((⟨#[98]⟩ : ByteArray), (⟨#[52]⟩ : ByteArray))] : List (ByteArray × ByteArray)) (⟨5, (⟨#[98]⟩ : ByteArray), (⟨#[]⟩ : ByteArray), (⟨#[]⟩ : ByteArray), (⟨#[97]⟩ : ByteArray), 5⟩ : OpV) (shortAll (by decide +kernel)) (fun w h => hL w (h.drop 2)) (by decide) hs29) ?_
  rintro hv31x w33 ⟨hv31, hs30⟩
  rw [works3] at hv31 hs30
  subst hv31
  refine ⟨(opn (by kernel_rfl)), ?_⟩
  refine GoR.alloc rfl rfl (by kernel_rfl) (z := .agg #[.int .i64 0, .string (⟨#[]⟩ : ByteArray)]) (by kernel_rfl) hs30 (cs := #[.int .i64 0, .string (⟨#[]⟩ : ByteArray)]) (by kernel_rfl) ?_
  intro b34 w35 hs36
  refine ⟨(opn (by kernel_rfl)), ?_⟩
  refine GoR.store rfl rfl (by kernel_rfl) (b := b34) (off := 0) (v := .agg (RepV.cells (⟨14, (⟨#[52]⟩ : ByteArray)⟩ : RepV))) (by kernel_rfl) (by kernel_rfl) (ti := Tryd.t34) (by kernel_rfl) hs36 0 rfl (by kernel_rfl) (by kernel_rfl) (Nat.le_of_ble_eq_true (by kernel_rfl)) (cs' := RepV.cells (⟨14, (⟨#[52]⟩ : ByteArray)⟩ : RepV)) (L' := (Cel b34 (RepV.cells (⟨14, (⟨#[52]⟩ : ByteArray)⟩ : RepV)) 34) :: (Cel p1 #[.map (some r2)] 89) :: (MapA Value.string Value.string r2 ([((⟨#[97]⟩ : ByteArray), (⟨#[54]⟩ : ByteArray)), ((⟨#[98]⟩ : ByteArray), (⟨#[52]⟩ : ByteArray))] : List (ByteArray × ByteArray))) :: (Cel b24 (RepV.cells (⟨0, (⟨#[52]⟩ : ByteArray)⟩ : RepV)) 34) :: (Cel b14 (RepV.cells (⟨0, (⟨#[54]⟩ : ByteArray)⟩ : RepV)) 34) :: L) (by kernel_rfl) rfl ?_
  intro w37 hs38
  refine ⟨(opn (by kernel_rfl)), ?_⟩
  refine GoR.done (GoQ.thn (GoC.seq ?_))
  refine GoC.regT [31, 31, 31, 31, 31] (.rd 0 (.rd 1 (.ef 2 (.ef 3 (.ef 4 .done))))) (by kernel_rfl) (by kernel_rfl) ?_
  refine GoR.phaseK [(0, .gen []), (1, .gen [])] [20, 19, 4, 3, 2, 1, 0] [] [(20, .agg #[.int .u8 4, .string (⟨#[98]⟩ : ByteArray), .string (⟨#[120]⟩ : ByteArray), .string (⟨#[51]⟩ : ByteArray), .string (⟨#[]⟩ : ByteArray), .int .u64 0]), (19, .pointer (some ⟨p1, 0, none⟩)), (4, .pointer (some ⟨b34, 0, none⟩)), (3, .pointer (some ⟨b24, 0, none⟩)), (2, .pointer (some ⟨b14, 0, none⟩)), (1, .pointer (some ⟨p1, 0, none⟩)), (0, .bool false)] (by kernel_rfl) rfl ak0 ?_
  have hs39 : St w0 ((Cel p1 #[.map (some r2)] 89) :: (MapA Value.string Value.string r2 ([((⟨#[97]⟩ : ByteArray), (⟨#[54]⟩ : ByteArray)), ((⟨#[98]⟩ : ByteArray), (⟨#[52]⟩ : ByteArray))] : List (ByteArray × ByteArray))) :: (Cel b34 (RepV.cells (⟨14, (⟨#[52]⟩ : ByteArray)⟩ : RepV)) 34) :: (Cel b24 (RepV.cells (⟨0, (⟨#[52]⟩ : ByteArray)⟩ : RepV)) 34) :: (Cel b14 (RepV.cells (⟨0, (⟨#[54]⟩ : ByteArray)⟩ : RepV)) 34) :: L) w37 := ((hs38.pull 2 rfl).pull 2 rfl)
  refine GoR.call rfl rfl (by kernel_rfl) (f := 22) (args := #[.pointer (some ⟨p1, 0, none⟩), .agg #[.int .u8 4, .string (⟨#[98]⟩ : ByteArray), .string (⟨#[120]⟩ : ByteArray), .string (⟨#[51]⟩ : ByteArray), .string (⟨#[]⟩ : ByteArray), .int .u64 0]]) (by kernel_rfl) Tryd.call22 (ldo_spec ([((⟨#[97]⟩ : ByteArray), (⟨#[54]⟩ : ByteArray)), ((⟨#[98]⟩ : ByteArray), (⟨#[52]⟩ : ByteArray))] : List (ByteArray × ByteArray)) (⟨4, (⟨#[98]⟩ : ByteArray), (⟨#[120]⟩ : ByteArray), (⟨#[51]⟩ : ByteArray), (⟨#[]⟩ : ByteArray), 0⟩ : OpV) (shortAll (by decide +kernel)) (fun w h => hL w (h.drop 3)) (by decide) hs39) ?_
  rintro hv41x w43 ⟨hv41, hs40⟩
  rw [works4] at hv41 hs40
  subst hv41
  refine ⟨(opn (by kernel_rfl)), ?_⟩
  refine GoR.alloc rfl rfl (by kernel_rfl) (z := .agg #[.int .i64 0, .string (⟨#[]⟩ : ByteArray)]) (by kernel_rfl) hs40 (cs := #[.int .i64 0, .string (⟨#[]⟩ : ByteArray)]) (by kernel_rfl) ?_
  intro b44 w45 hs46
  refine ⟨(opn (by kernel_rfl)), ?_⟩
  refine GoR.store rfl rfl (by kernel_rfl) (b := b44) (off := 0) (v := .agg (RepV.cells (⟨15, (⟨#[52]⟩ : ByteArray)⟩ : RepV))) (by kernel_rfl) (by kernel_rfl) (ti := Tryd.t34) (by kernel_rfl) hs46 0 rfl (by kernel_rfl) (by kernel_rfl) (Nat.le_of_ble_eq_true (by kernel_rfl)) (cs' := RepV.cells (⟨15, (⟨#[52]⟩ : ByteArray)⟩ : RepV)) (L' := (Cel b44 (RepV.cells (⟨15, (⟨#[52]⟩ : ByteArray)⟩ : RepV)) 34) :: (Cel p1 #[.map (some r2)] 89) :: (MapA Value.string Value.string r2 ([((⟨#[97]⟩ : ByteArray), (⟨#[54]⟩ : ByteArray)), ((⟨#[98]⟩ : ByteArray), (⟨#[52]⟩ : ByteArray))] : List (ByteArray × ByteArray))) :: (Cel b34 (RepV.cells (⟨14, (⟨#[52]⟩ : ByteArray)⟩ : RepV)) 34) :: (Cel b24 (RepV.cells (⟨0, (⟨#[52]⟩ : ByteArray)⟩ : RepV)) 34) :: (Cel b14 (RepV.cells (⟨0, (⟨#[54]⟩ : ByteArray)⟩ : RepV)) 34) :: L) (by kernel_rfl) rfl ?_
  intro w47 hs48
  refine ⟨(opn (by kernel_rfl)), ?_⟩
  refine GoR.done (GoQ.thn (GoC.seq ?_))
  refine GoC.regT [33554431, 33554431, 33554431, 33554431, 33554431, 33554431, 33554431, 33554431, 33554431, 33554431, 33554431, 33554431, 33554431, 33554431, 33554431, 33554431, 33554431, 33554431, 33554431, 33554431, 33554431, 33554431, 33554431, 33554431, 33554431] (.rd 0 (.rd 1 (.rd 2 (.rd 3 (.rd 4 (.rd 5 (.rd 6 (.rd 7 (.rd 8 (.rd 9 (.rd 10 (.rd 11 (.rd 12 (.rd 13 (.rd 14 (.rd 15 (.rd 16 (.rd 17 (.rd 18 (.rd 19 (.ef 20 (.rd 21 (.rd 22 (.rd 23 (.rd 24 .done))))))))))))))))))))))))) (by kernel_rfl) (by kernel_rfl) ?_
  refine GoR.phaseK [(0, .agg (RepV.cells (⟨0, (⟨#[54]⟩ : ByteArray)⟩ : RepV))), (1, .gen [])] [23, 22, 5, 4, 3, 1, 0] [(0, [.prop (Array.size (RepV.cells (⟨0, (⟨#[54]⟩ : ByteArray)⟩ : RepV)) = 2), .cells ⟨b14, 0, none⟩ (RepV.cells (⟨0, (⟨#[54]⟩ : ByteArray)⟩ : RepV))])] [(23, .agg #[.int .i64 0, .string (⟨#[54]⟩ : ByteArray)]), (22, .agg (RepV.cells (⟨0, (⟨#[54]⟩ : ByteArray)⟩ : RepV))), (5, .pointer (some ⟨b44, 0, none⟩)), (4, .pointer (some ⟨b34, 0, none⟩)), (3, .pointer (some ⟨b24, 0, none⟩)), (1, .pointer (some ⟨p1, 0, none⟩)), (0, .bool false)] (by kernel_rfl) rfl (ak (okp (by kernel_rfl) (oka (hs48.cells 5 0 rfl (by kernel_rfl)) ok0)) ak0) ?_
  refine GoR.eqAgg rfl (by kernel_rfl) (b := true) (t := 34) (xs := RepV.cells (⟨0, (⟨#[54]⟩ : ByteArray)⟩ : RepV)) (ys := RepV.cells (⟨0, (⟨#[54]⟩ : ByteArray)⟩ : RepV)) (m := 2) (by kernel_rfl) (by kernel_rfl) (by decide) (by kernel_rfl) (r := decide ((⟨0, (⟨#[54]⟩ : ByteArray)⟩ : RepV) = (⟨0, (⟨#[54]⟩ : ByteArray)⟩ : RepV))) (aggEq  (repEq (⟨0, (⟨#[54]⟩ : ByteArray)⟩ : RepV) (⟨0, (⟨#[54]⟩ : ByteArray)⟩ : RepV))) ?_
  refine GoR.phaseK [(3, .gen [])] [25, 5, 4, 3, 1, 0] [] [(25, .bool (decide ((⟨0, (⟨#[54]⟩ : ByteArray)⟩ : RepV) = (⟨0, (⟨#[54]⟩ : ByteArray)⟩ : RepV)))), (5, .pointer (some ⟨b44, 0, none⟩)), (4, .pointer (some ⟨b34, 0, none⟩)), (3, .pointer (some ⟨b24, 0, none⟩)), (1, .pointer (some ⟨p1, 0, none⟩)), (0, .bool false)] (by kernel_rfl) rfl ak0 ?_
  rcases Bool.eq_false_or_eq_true (decide ((⟨0, (⟨#[54]⟩ : ByteArray)⟩ : RepV) = (⟨0, (⟨#[54]⟩ : ByteArray)⟩ : RepV))) with h49 | h49
  · refine GoR.setB 25 true (by decide) (by kernel_rfl) h49 ?_
    have h49' : (⟨0, (⟨#[54]⟩ : ByteArray)⟩ : RepV) = (⟨0, (⟨#[54]⟩ : ByteArray)⟩ : RepV) := of_decide_eq_true h49
    refine GoR.phaseK [(4, .agg (RepV.cells (⟨0, (⟨#[52]⟩ : ByteArray)⟩ : RepV))), (5, .gen [])] [27, 26, 25, 5, 4, 1, 0] [(4, [.prop (Array.size (RepV.cells (⟨0, (⟨#[52]⟩ : ByteArray)⟩ : RepV)) = 2), .cells ⟨b24, 0, none⟩ (RepV.cells (⟨0, (⟨#[52]⟩ : ByteArray)⟩ : RepV))])] [(27, .agg #[.int .i64 0, .string (⟨#[52]⟩ : ByteArray)]), (26, .agg (RepV.cells (⟨0, (⟨#[52]⟩ : ByteArray)⟩ : RepV))), (25, .bool true), (5, .pointer (some ⟨b44, 0, none⟩)), (4, .pointer (some ⟨b34, 0, none⟩)), (1, .pointer (some ⟨p1, 0, none⟩)), (0, .bool false)] (by kernel_rfl) rfl (ak (okp (by kernel_rfl) (oka (hs48.cells 4 0 rfl (by kernel_rfl)) ok0)) ak0) ?_
    refine GoR.eqAgg rfl (by kernel_rfl) (b := true) (t := 34) (xs := RepV.cells (⟨0, (⟨#[52]⟩ : ByteArray)⟩ : RepV)) (ys := RepV.cells (⟨0, (⟨#[52]⟩ : ByteArray)⟩ : RepV)) (m := 2) (by kernel_rfl) (by kernel_rfl) (by decide) (by kernel_rfl) (r := decide ((⟨0, (⟨#[52]⟩ : ByteArray)⟩ : RepV) = (⟨0, (⟨#[52]⟩ : ByteArray)⟩ : RepV))) (aggEq  (repEq (⟨0, (⟨#[52]⟩ : ByteArray)⟩ : RepV) (⟨0, (⟨#[52]⟩ : ByteArray)⟩ : RepV))) ?_
    refine GoR.phaseK [(7, .gen []), (8, .gen [])] [30, 5, 4, 1, 0] [] [(30, .bool (decide ((⟨0, (⟨#[52]⟩ : ByteArray)⟩ : RepV) = (⟨0, (⟨#[52]⟩ : ByteArray)⟩ : RepV)))), (5, .pointer (some ⟨b44, 0, none⟩)), (4, .pointer (some ⟨b34, 0, none⟩)), (1, .pointer (some ⟨p1, 0, none⟩)), (0, .bool false)] (by kernel_rfl) rfl ak0 ?_
    rcases Bool.eq_false_or_eq_true (decide ((⟨0, (⟨#[52]⟩ : ByteArray)⟩ : RepV) = (⟨0, (⟨#[52]⟩ : ByteArray)⟩ : RepV))) with h50 | h50
    · refine GoR.setB 30 true (by decide) (by kernel_rfl) h50 ?_
      have h50' : (⟨0, (⟨#[52]⟩ : ByteArray)⟩ : RepV) = (⟨0, (⟨#[52]⟩ : ByteArray)⟩ : RepV) := of_decide_eq_true h50
      refine GoR.phaseK [(9, .agg (RepV.cells (⟨14, (⟨#[52]⟩ : ByteArray)⟩ : RepV))), (10, .gen [])] [32, 31, 30, 5, 1, 0] [(9, [.prop (Array.size (RepV.cells (⟨14, (⟨#[52]⟩ : ByteArray)⟩ : RepV)) = 2), .cells ⟨b34, 0, none⟩ (RepV.cells (⟨14, (⟨#[52]⟩ : ByteArray)⟩ : RepV))])] [(32, .agg #[.int .i64 14, .string (⟨#[52]⟩ : ByteArray)]), (31, .agg (RepV.cells (⟨14, (⟨#[52]⟩ : ByteArray)⟩ : RepV))), (30, .bool true), (5, .pointer (some ⟨b44, 0, none⟩)), (1, .pointer (some ⟨p1, 0, none⟩)), (0, .bool false)] (by kernel_rfl) rfl (ak (okp (by kernel_rfl) (oka (hs48.cells 3 0 rfl (by kernel_rfl)) ok0)) ak0) ?_
      refine GoR.eqAgg rfl (by kernel_rfl) (b := true) (t := 34) (xs := RepV.cells (⟨14, (⟨#[52]⟩ : ByteArray)⟩ : RepV)) (ys := RepV.cells (⟨14, (⟨#[52]⟩ : ByteArray)⟩ : RepV)) (m := 2) (by kernel_rfl) (by kernel_rfl) (by decide) (by kernel_rfl) (r := decide ((⟨14, (⟨#[52]⟩ : ByteArray)⟩ : RepV) = (⟨14, (⟨#[52]⟩ : ByteArray)⟩ : RepV))) (aggEq  (repEq (⟨14, (⟨#[52]⟩ : ByteArray)⟩ : RepV) (⟨14, (⟨#[52]⟩ : ByteArray)⟩ : RepV))) ?_
      refine GoR.phaseK [(12, .gen []), (13, .gen [])] [35, 5, 1, 0] [] [(35, .bool (decide ((⟨14, (⟨#[52]⟩ : ByteArray)⟩ : RepV) = (⟨14, (⟨#[52]⟩ : ByteArray)⟩ : RepV)))), (5, .pointer (some ⟨b44, 0, none⟩)), (1, .pointer (some ⟨p1, 0, none⟩)), (0, .bool false)] (by kernel_rfl) rfl ak0 ?_
      rcases Bool.eq_false_or_eq_true (decide ((⟨14, (⟨#[52]⟩ : ByteArray)⟩ : RepV) = (⟨14, (⟨#[52]⟩ : ByteArray)⟩ : RepV))) with h51 | h51
      · refine GoR.setB 35 true (by decide) (by kernel_rfl) h51 ?_
        have h51' : (⟨14, (⟨#[52]⟩ : ByteArray)⟩ : RepV) = (⟨14, (⟨#[52]⟩ : ByteArray)⟩ : RepV) := of_decide_eq_true h51
        refine GoR.phaseK [(14, .agg (RepV.cells (⟨15, (⟨#[52]⟩ : ByteArray)⟩ : RepV))), (15, .gen [])] [37, 36, 35, 1, 0] [(14, [.prop (Array.size (RepV.cells (⟨15, (⟨#[52]⟩ : ByteArray)⟩ : RepV)) = 2), .cells ⟨b44, 0, none⟩ (RepV.cells (⟨15, (⟨#[52]⟩ : ByteArray)⟩ : RepV))])] [(37, .agg #[.int .i64 15, .string (⟨#[52]⟩ : ByteArray)]), (36, .agg (RepV.cells (⟨15, (⟨#[52]⟩ : ByteArray)⟩ : RepV))), (35, .bool true), (1, .pointer (some ⟨p1, 0, none⟩)), (0, .bool false)] (by kernel_rfl) rfl (ak (okp (by kernel_rfl) (oka (hs48.cells 0 0 rfl (by kernel_rfl)) ok0)) ak0) ?_
        refine GoR.eqAgg rfl (by kernel_rfl) (b := true) (t := 34) (xs := RepV.cells (⟨15, (⟨#[52]⟩ : ByteArray)⟩ : RepV)) (ys := RepV.cells (⟨15, (⟨#[52]⟩ : ByteArray)⟩ : RepV)) (m := 2) (by kernel_rfl) (by kernel_rfl) (by decide) (by kernel_rfl) (r := decide ((⟨15, (⟨#[52]⟩ : ByteArray)⟩ : RepV) = (⟨15, (⟨#[52]⟩ : ByteArray)⟩ : RepV))) (aggEq  (repEq (⟨15, (⟨#[52]⟩ : ByteArray)⟩ : RepV) (⟨15, (⟨#[52]⟩ : ByteArray)⟩ : RepV))) ?_
        refine GoR.phaseK [(17, .gen []), (18, .gen [])] [40, 1, 0] [] [(40, .bool (decide ((⟨15, (⟨#[52]⟩ : ByteArray)⟩ : RepV) = (⟨15, (⟨#[52]⟩ : ByteArray)⟩ : RepV)))), (1, .pointer (some ⟨p1, 0, none⟩)), (0, .bool false)] (by kernel_rfl) rfl ak0 ?_
        rcases Bool.eq_false_or_eq_true (decide ((⟨15, (⟨#[52]⟩ : ByteArray)⟩ : RepV) = (⟨15, (⟨#[52]⟩ : ByteArray)⟩ : RepV))) with h52 | h52
        · refine GoR.setB 40 true (by decide) (by kernel_rfl) h52 ?_
          have h52' : (⟨15, (⟨#[52]⟩ : ByteArray)⟩ : RepV) = (⟨15, (⟨#[52]⟩ : ByteArray)⟩ : RepV) := of_decide_eq_true h52
          refine GoR.phaseK [(19, .gen [])] [41, 40, 0] [] [(41, .pointer (some ⟨p1, 0, none⟩)), (40, .bool true), (0, .bool false)] (by kernel_rfl) rfl ak0 ?_
          have hs54 : St w0 ((Cel p1 #[.map (some r2)] 89) :: (MapA Value.string Value.string r2 ([((⟨#[97]⟩ : ByteArray), (⟨#[54]⟩ : ByteArray)), ((⟨#[98]⟩ : ByteArray), (⟨#[52]⟩ : ByteArray))] : List (ByteArray × ByteArray))) :: (Cel b44 (RepV.cells (⟨15, (⟨#[52]⟩ : ByteArray)⟩ : RepV)) 34) :: (Cel b34 (RepV.cells (⟨14, (⟨#[52]⟩ : ByteArray)⟩ : RepV)) 34) :: (Cel b24 (RepV.cells (⟨0, (⟨#[52]⟩ : ByteArray)⟩ : RepV)) 34) :: (Cel b14 (RepV.cells (⟨0, (⟨#[54]⟩ : ByteArray)⟩ : RepV)) 34) :: L) w47 := ((hs48.pull 2 rfl).pull 2 rfl)
          refine GoR.call rfl rfl (by kernel_rfl) (f := 23) (args := #[.pointer (some ⟨p1, 0, none⟩)]) (by kernel_rfl) Tryd.call23 (list_spec ([((⟨#[97]⟩ : ByteArray), (⟨#[54]⟩ : ByteArray)), ((⟨#[98]⟩ : ByteArray), (⟨#[52]⟩ : ByteArray))] : List (ByteArray × ByteArray)) (by decide) hs54) ?_
          rintro v57 w58 ⟨ad55, c56, rfl, hs53⟩
          refine ⟨(opn (by kernel_rfl)), ?_⟩
          refine GoR.phaseK [(21, .gen []), (22, .gen []), (23, .gen []), (24, .gen [])] [0] [] [(0, .bool ((((lst ([((⟨#[97]⟩ : ByteArray), (⟨#[54]⟩ : ByteArray)), ((⟨#[98]⟩ : ByteArray), (⟨#[52]⟩ : ByteArray))] : List (ByteArray × ByteArray))).length : Nat) : Int) == 2))] (by kernel_rfl) rfl ak0 ?_
          refine GoR.done (GoQ.thn (GoC.ret ?_))
          refine GoQ.done (.inl rfl) (v := .bool ((((lst ([((⟨#[97]⟩ : ByteArray), (⟨#[54]⟩ : ByteArray)), ((⟨#[98]⟩ : ByteArray), (⟨#[52]⟩ : ByteArray))] : List (ByteArray × ByteArray))).length : Nat) : Int) == 2)) (fun a hf => results1 rfl (by kernel_rfl) a hf) ?_
          exact ⟨congrArg Value.bool (by first | decide +kernel | (rw [lst_length]; decide)), hs53.drop 7⟩
        · refine GoR.setB 40 false (by decide) (by kernel_rfl) h52 ?_
          have h52' : ¬ ((⟨15, (⟨#[52]⟩ : ByteArray)⟩ : RepV) = (⟨15, (⟨#[52]⟩ : ByteArray)⟩ : RepV)) := of_decide_eq_false h52
          exact absurd h52 (by first | decide +kernel | (rw [lst_length]; decide))
      · refine GoR.setB 35 false (by decide) (by kernel_rfl) h51 ?_
        have h51' : ¬ ((⟨14, (⟨#[52]⟩ : ByteArray)⟩ : RepV) = (⟨14, (⟨#[52]⟩ : ByteArray)⟩ : RepV)) := of_decide_eq_false h51
        exact absurd h51 (by first | decide +kernel | (rw [lst_length]; decide))
    · refine GoR.setB 30 false (by decide) (by kernel_rfl) h50 ?_
      have h50' : ¬ ((⟨0, (⟨#[52]⟩ : ByteArray)⟩ : RepV) = (⟨0, (⟨#[52]⟩ : ByteArray)⟩ : RepV)) := of_decide_eq_false h50
      exact absurd h50 (by first | decide +kernel | (rw [lst_length]; decide))
  · refine GoR.setB 25 false (by decide) (by kernel_rfl) h49 ?_
    have h49' : ¬ ((⟨0, (⟨#[54]⟩ : ByteArray)⟩ : RepV) = (⟨0, (⟨#[54]⟩ : ByteArray)⟩ : RepV)) := of_decide_eq_false h49
    exact absurd h49 (by first | decide +kernel | (rw [lst_length]; decide))
end Go.Proofs.YtkeckbgkhpaofaaDoor
