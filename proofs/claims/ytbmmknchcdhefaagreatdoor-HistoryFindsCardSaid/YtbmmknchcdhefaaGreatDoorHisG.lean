/-
  Find: trying all orders. Conditions: none beside each theorem's own.
-/
import Derived.Test.YtbmmknchcdhefaaGreatDoorSxT
import Derived.Test.YtbmmknchcdhefaaGreatDoorHisF
namespace Go.Proofs.YtbmmknchcdhefaaGreatDoor
open Go.RowKit Go.Sx
set_option linter.unusedVariables false
set_option linter.unusedSimpArgs false
set_option linter.unnecessarySimpa false
set_option maxRecDepth 100000
def eqN (v x : Nat) : Bool := ((v : Nat) : Int) == ((x : Nat) : Int)
theorem eqN_iff (v x : Nat) : eqN v x = decide (v = x) := by
  unfold eqN
  rw [int_beq, decide_eq_decide]
  omega
theorem has_iff (l : List Nat) (v : Nat) : (idx 0 l (eqN v)).isSome = decide (v ∈ l) := by
  cases h : idx 0 l (eqN v) with
  | none =>
    have h1 := firstO_none_iff.1 h
    refine (decide_eq_false fun hm => ?_).symm
    obtain ⟨i, hi, he⟩ := List.getElem_of_mem hm
    have h2 := h1 i hi
    rw [eqN_iff, List.getD_eq_getElem?_getD, List.getElem?_eq_getElem hi] at h2
    exact absurd he.symm (of_decide_eq_false h2)
  | some k =>
    obtain ⟨h1, h2, -⟩ := firstO_iff.1 h
    rw [eqN_iff, List.getD_eq_getElem?_getD, List.getElem?_eq_getElem h1] at h2
    have h3 : v = l[k] := of_decide_eq_true h2
    exact (decide_eq_true (h3 ▸ List.getElem_mem h1)).symm
def rowL (l : List CallV) (o : List Nat) : List ReqV := o.map fun i => reqOf (l.getD i dCall)
theorem rowL_snoc (l : List CallV) (o : List Nat) (k : Nat) : rowL l (o ++ [k]) = rowL l o ++ [reqOf (l.getD k dCall)] := by simp [rowL]
theorem rowL_length (l : List CallV) (o : List Nat) : (rowL l o).length = o.length := by simp [rowL]
def okO (l : List CallV) (o : List Nat) : Bool := (chkV l (rowL l o)).1 == 0
def tryF (l : List CallV) : Nat → List Nat → Option (List Nat)
  | 0, o => if okO l o = true then some o else none
  | d + 1, o => if okO l o = true then some o else (List.range l.length).findSome? fun i => if i ∈ o then none else tryF l d (o ++ [i])
theorem nodup_len : ∀ {n : Nat} {o : List Nat}, o.Nodup → (∀ i ∈ o, i < n) → o.length ≤ n
  | 0, o, _, h => by
    cases o with
    | nil => exact Nat.le_refl _
    | cons x o => exact absurd (h x (List.mem_cons_self ..)) (by omega)
  | n + 1, o, hd, h => by
    have h1 := nodup_len (n := n) (o := o.filter fun x => decide (x ≠ n)) (hd.filter _) (fun i hi => by
      have h2 := List.mem_filter.1 hi
      have h3 := h i h2.1
      have h4 : i ≠ n := by simpa using h2.2
      omega)
    have h5 : o.length ≤ (o.filter fun x => decide (x ≠ n)).length + 1 := by
      have h6 : ∀ (o : List Nat), o.Nodup → o.length ≤ (o.filter fun x => decide (x ≠ n)).length + 1 := by
        intro o
        induction o with
        | nil => intro _; simp
        | cons x o ih =>
          intro hn
          have hn' := List.nodup_cons.1 hn
          by_cases hx : x = n
          · subst hx
            have : (o.filter fun y => decide (y ≠ x)) = o := List.filter_eq_self.2 (fun y hy => by
              have : y ≠ x := fun e => hn'.1 (e ▸ hy)
              simpa using this)
            rw [List.filter_cons, if_neg (by simp), this]
            simp
          · rw [List.filter_cons, if_pos (by simpa using hx)]
            have := ih hn'.2
            simp only [List.length_cons]
            omega
      exact h6 o hd
    omega
theorem tryF_ok {l : List CallV} {d : Nat} {o : List Nat} (h : okO l o = true) : tryF l d o = some o := by
  cases d with
  | zero => exact if_pos h
  | succ d => exact if_pos h
theorem range_some {n k : Nat} {f : Nat → Option (List Nat)} {x : List Nat} (hk : k < n) (h0 : ∀ i, i < k → f i = none) (h : f k = some x) : (List.range n).findSome? f = some x := by
  have e1 : List.range n = List.range k ++ List.range' k (n - k) := by
    rw [List.range_eq_range', List.range_eq_range']
    have h9 := List.range'_append_1 (s := 0) (m := k) (n := n - k)
    rw [Nat.zero_add, show k + (n - k) = n by omega] at h9
    exact h9.symm
  rw [e1, show n - k = (n - (k + 1)) + 1 by omega, List.range'_succ, List.findSome?_append, List.findSome?_cons, h]
  have : (List.range k).findSome? f = none := List.findSome?_eq_none_iff.2 (fun x hx => h0 x (List.mem_range.1 hx))
  rw [this]
  rfl
theorem range_none {n : Nat} {f : Nat → Option (List Nat)} (h0 : ∀ i, i < n → f i = none) : (List.range n).findSome? f = none := List.findSome?_eq_none_iff.2 (fun x hx => h0 x (List.mem_range.1 hx))
def stepF (l : List CallV) (d : Nat) (o : List Nat) (i : Nat) : Option (List Nat) := if i ∈ o then none else tryF l (d - 1) (o ++ [i])
theorem tryF_hit {l : List CallV} {d : Nat} {o x : List Nat} {k : Nat} (hb : okO l o = false) (hd : 1 ≤ d) (hk : k < l.length) (h0 : ∀ i, i < k → stepF l d o i = none) (h : stepF l d o k = some x) : tryF l d o = some x := by
  obtain ⟨d, rfl⟩ : ∃ e, d = e + 1 := ⟨d - 1, by omega⟩
  rw [tryF, if_neg (ne_true_of_eq_false hb)]
  exact range_some (f := stepF l (d + 1) o) hk h0 h
theorem tryF_miss {l : List CallV} {d : Nat} {o : List Nat} (hb : okO l o = false) (h0 : ∀ i, i < l.length → stepF l d o i = none) : tryF l d o = none := by
  cases d with
  | zero => exact if_neg (ne_true_of_eq_false hb)
  | succ d =>
    rw [tryF, if_neg (ne_true_of_eq_false hb)]
    exact range_none (f := stepF l (d + 1) o) h0
def Fresh (n : Nat) (o : List Nat) : Prop := o.Nodup ∧ ∀ i ∈ o, i < n
theorem Fresh.snoc {n k : Nat} {o : List Nat} (h : Fresh n o) (hk : k < n) (hm : ¬ k ∈ o) : Fresh n (o ++ [k]) := by
  refine ⟨List.nodup_append.2 ⟨h.1, by simp, fun a ha b hb => ?_⟩, fun i hi => ?_⟩
  · rw [List.mem_singleton.1 hb]
    exact fun e => hm (e ▸ ha)
  · rcases List.mem_append.1 hi with h1 | h1
    · exact h.2 i h1
    · rw [List.mem_singleton.1 h1]; exact hk
theorem Fresh.len {n : Nat} {o : List Nat} (h : Fresh n o) : o.length ≤ n := nodup_len h.1 h.2
theorem row_amount {l : List CallV} (h : ∀ c ∈ l, 0 ≤ c.op.amount) (o : List Nat) : ∀ q ∈ rowL l o, 0 ≤ q.op.amount := fun q hq => by
  obtain ⟨i, -, rfl⟩ := List.mem_map.1 hq
  show 0 ≤ (l.getD i dCall).op.amount
  rcases Nat.lt_or_ge i l.length with hi | hi
  · exact h _ (getD_mem hi)
  · rw [List.getD_eq_getElem?_getD, List.getElem?_eq_none hi]
    decide
theorem ixN_spec {w0 w : World} {L : List Asn} {oa : Option Addr} {oc : Nat} (o : List Nat) (v : Nat) (hlen : o.length ≤ 1000000) (hr : ∀ w, St w0 L w → RowsAt w oa o.length 1 (fun k => natC (o.getD k (0 : Nat)))) (hs : St w0 (L) w) : Calls Tryz.prog 59 #[.slice oa o.length oc, .int .i64 (v : Nat)] w (Ret fun rv w' => rv = .int .i64 (ixI (idx 0 o (eqN v))) ∧ St w0 (L) w') := by
  refine enter (args := [.slice oa o.length oc, .int .i64 (v : Nat)]) Tryz.func59 rfl Tryz.ntmps59 (Nat.le_of_ble_eq_true (by kernel_rfl)) ?_
  refine GoC.slots (S' := [(0, .slice oa o.length oc), (1, .int .i64 (v : Nat))]) rfl ?_
  refine GoC.seq ?_
  refine Xt (.rd 0 .done) ?_
  refine Xk [(0, .gen [])] [] [(4, .int .i64 0), (0, .slice oa o.length oc), (1, .int .i64 (v : Nat))] ak0 ?_
  refine GoR.done (GoQ.thn (GoC.seq (GoC.seq ?_)))
  refine Xt (.rd 0 (.rd 1 (.rd 2 .done))) ?_
  refine Xk [(0, .gen []), (1, .gen []), (2, .gen [])] [] [(8, .int .i64 0), (7, .int .i64 (o.length : Nat)), (4, .int .i64 0), (0, .slice oa o.length oc), (1, .int .i64 (v : Nat))] ak0 ?_
  refine GoR.done (GoQ.thn (GoC.block ?_))
  refine GoC.loop (T := Nat) (fun gg => [(0, .slice oa o.length oc), (1, .int .i64 (v : Nat)), (7, .int .i64 (o.length : Nat)), (8, .int .i64 (gg : Nat))]) (fun gg w => (gg ≤ o.length ∧ ∀ z, z < gg → (eqN v) (o.getD z 0) = false) ∧ St w0 (L) w) (fun gg => o.length - gg) 0 [0, 1, 7, 8] (by kernel_rfl) ⟨⟨Nat.zero_le _, fun i hi => absurd hi (Nat.not_lt_zero _)⟩, hs⟩ ?_
  rintro k w1 ⟨hp0, hs2⟩
  have hp : k ≤ o.length ∧ ∀ z, z < k → (eqN v) (o.getD z 0) = false := hp0
  have hs3 : St w0 (L) w1 := hs2
  refine GoC.slots (S' := [(0, .slice oa o.length oc), (1, .int .i64 (v : Nat)), (7, .int .i64 (o.length : Nat)), (8, .int .i64 (k : Nat))]) rfl ?_
  refine GoC.seq ?_
  refine Xt (.rd 0 .done) ?_
  refine Xk [(0, .gen [])] [] [(9, .bool (decide (((k : Nat) : Int) < (o.length : Nat)))), (0, .slice oa o.length oc), (1, .int .i64 (v : Nat)), (7, .int .i64 (o.length : Nat)), (8, .int .i64 (k : Nat))] ak0 ?_
  refine GoR.done (GoQ.thn (GoC.seq ?_))
  refine Xc (t := decide (((k : Nat) : Int) < (o.length : Nat))) (fun h4 => ?_) (fun h4 => ?_)
  · have h4' : ((k : Nat) : Int) < (o.length : Nat) := of_decide_eq_true h4
    have hk : k < o.length := by omega
    obtain ⟨ab5, ao6, rfl⟩ := RowsAt.isSome (hr _ (hs3.drop 0)) (by omega)
    refine GoC.skip (GoQ.thn (GoC.seq (GoC.block (GoC.seq ?_))))
    refine Xt (.rd 0 (.rd 1 .done)) ?_
    refine Xk [(0, .gen []), (1, .gen [])] [] [(5, .int .i64 (k : Nat)), (0, vl ab5 ao6 o.length oc), (1, .int .i64 (v : Nat)), (7, .int .i64 (o.length : Nat)), (8, .int .i64 (k : Nat))] ak0 ?_
    refine GoR.done (GoQ.thn (GoC.seq ?_))
    refine Xt (.rd 0 (.rd 1 (.rd 2 (.rd 3 (.rd 4 (.rd 5 .done)))))) ?_
    refine Xk [(0, .gen []), (1, .gen []), (2, .gen []), (3, .as_ (vp ab5 (ao6 + (k * 1))) .at_), (4, .gen [.int .i64 ((o.getD k (0 : Nat)) : Nat)]), (5, .gen [])] [(3, [.prop (0 ≤ ((k : Nat) : Int) ∧ ((k : Nat) : Int) < ((o.length : Nat) : Int)), .prop (Value.pointer (some (Addr.add ⟨ab5, ao6, none⟩ (Int.toNat (k : Nat) * 1))) = Value.pointer (some ⟨ab5, ao6 + (k * 1), none⟩))]), (4, [.cell ⟨ab5, ao6 + (k * 1), none⟩ (.int .i64 ((o.getD k (0 : Nat)) : Nat))])] [(16, .bool (((v : Nat) : Int) == ((o.getD k (0 : Nat)) : Nat))), (5, .int .i64 (k : Nat)), (0, vl ab5 ao6 o.length oc), (1, .int .i64 (v : Nat)), (7, .int .i64 (o.length : Nat)), (8, .int .i64 (k : Nat))] (ak (okp (by omega) (okp (ptrAdd _ _ _) ok0)) (ak (okc (RowsAt.at0 (hr _ (hs3.drop 0)) (k := k) (by first | omega | (simp only [List.length_set]; omega) | (simp only [List.length_set, List.length_append, List.length_cons, List.length_nil]; omega)) (j := 0) (by decide) (by kernel_rfl)) ok0) ak0)) ?_
    refine GoR.done (GoQ.thn ?_)
    refine Xc (t := ((v : Nat) : Int) == ((o.getD k (0 : Nat)) : Nat)) (fun h7 => ?_) (fun h7 => ?_)
    · have h7' : ((v : Nat) : Int) = ((o.getD k (0 : Nat)) : Nat) := ieqT h7
      refine GoC.seq ?_
      refine Xt (.rd 0 (.rd 1 .done)) ?_
      refine Xk [(0, .gen []), (1, .gen [])] [] [(4, .int .i64 (k : Nat)), (0, vl ab5 ao6 o.length oc), (1, .int .i64 (v : Nat)), (7, .int .i64 (o.length : Nat)), (8, .int .i64 (k : Nat))] ak0 ?_
      refine GoR.done (GoQ.thn (GoC.ret (GoQ.blkR (GoQ.skipCR (GoQ.skipLR (GoQ.blkR (GoQ.skipCR ?_)))))))
      refine X1 (v := .int .i64 (k : Nat)) ?_
      exact ⟨(by rw [idx_at (d := 0) (p := eqN v) hk (show (eqN v) (o.getD k 0) = true from h7) hp.2]; rfl), hs3⟩
    · have h7' : ¬ (((v : Nat) : Int) = ((o.getD k (0 : Nat)) : Nat)) := ieqF h7
      refine GoC.skip (GoQ.blkN (GoQ.thn ?_))
      refine Xt (.rd 0 (.rd 1 .done)) ?_
      refine Xk [(0, .as_ (.int .i64 ((k : Nat) + 1)) (.gen [])), (1, .gen [])] [(0, [.prop (Value.int .i64 (IntKind.i64.wrap ((k : Nat) + 1)) = Value.int .i64 ((k : Nat) + 1))])] [(8, .int .i64 ((k : Nat) + 1)), (0, vl ab5 ao6 o.length oc), (1, .int .i64 (v : Nat)), (7, .int .i64 (o.length : Nat))] (ak (okp (i64ok (by omega) (by omega)) ok0) ak0) ?_
      refine GoR.done ?_
      exact GoQ.back (k + 1) [0, 1, 7, 8] (by kernel_rfl) (by show o.length - (k + 1) < o.length - k; omega) ⟨⟨by omega, none_step (p := fun z => (eqN v) (o.getD z 0)) hp.2 (show (eqN v) (o.getD k 0) = false from h7)⟩, hs3⟩
  · have h4' : ¬ (((k : Nat) : Int) < (o.length : Nat)) := of_decide_eq_false h4
    refine GoC.exit (GoQ.skipC (GoQ.skipL (GoQ.hit (GoQ.thn (GoC.seq ?_)))))
    refine Xt (.rd 0 .done) ?_
    refine Xk [(0, .gen [])] [] [(4, .int .i64 (-1))] ak0 ?_
    refine GoR.done (GoQ.thn (GoC.ret ?_))
    refine X1 (v := .int .i64 (-1)) ?_
    exact ⟨(by rw [idx_none (d := 0) (l := o) (p := eqN v) (fun i hi => hp.2 i (by omega))]; rfl), hs3⟩
theorem hasN_spec {w0 w : World} {L : List Asn} {oa : Option Addr} {oc : Nat} (o : List Nat) (v : Nat) (hlen : o.length ≤ 1000000) (hr : ∀ w, St w0 L w → RowsAt w oa o.length 1 (fun k => natC (o.getD k (0 : Nat)))) (hs : St w0 (L) w) : Calls Tryz.prog 36 #[.slice oa o.length oc, .int .i64 (v : Nat)] w (Ret fun rv w' => rv = .bool (decide (v ∈ o)) ∧ St w0 (L) w') := by
  refine enter (args := [.slice oa o.length oc, .int .i64 (v : Nat)]) Tryz.func36 rfl Tryz.ntmps36 (Nat.le_of_ble_eq_true (by kernel_rfl)) ?_
  refine GoC.slots (S' := [(0, .slice oa o.length oc), (1, .int .i64 (v : Nat))]) rfl ?_
  refine GoC.seq ?_
  refine Xt (.rd 0 .done) ?_
  refine Xk [(0, .gen [])] [] [(4, .bool false), (0, .slice oa o.length oc), (1, .int .i64 (v : Nat))] ak0 ?_
  refine GoR.done (GoQ.thn (GoC.seq ?_))
  refine Xt (.rd 0 (.rd 1 (.ef 2 (.rd 3 (.rd 4 .done))))) ?_
  refine Xk [(0, .gen []), (1, .gen [])] [] [(6, .int .i64 (v : Nat)), (5, .slice oa o.length oc), (4, .bool false)] ak0 ?_
  refine Xa (f := 59) (args := #[.slice oa o.length oc, .int .i64 (v : Nat)]) Tryz.call59 (ixN_spec o v (by first | assumption | omega) (fun w h => hr _ (h.drop 0)) hs) ?_
  rintro v2 w3 ⟨rfl, hs1⟩
  refine ⟨Xo, ?_⟩
  refine Xk [(3, .gen []), (4, .gen [])] [] [(4, .bool (decide ((ixI (idx 0 o (eqN v)) : Int) ≥ 0)))] ak0 ?_
  refine GoR.done (GoQ.thn (GoC.ret ?_))
  refine X1 (v := .bool (decide ((ixI (idx 0 o (eqN v)) : Int) ≥ 0))) ?_
  exact ⟨(congrArg Value.bool ((ixI_some _).trans (has_iff _ _))), hs1⟩
end Go.Proofs.YtbmmknchcdhefaaGreatDoor
