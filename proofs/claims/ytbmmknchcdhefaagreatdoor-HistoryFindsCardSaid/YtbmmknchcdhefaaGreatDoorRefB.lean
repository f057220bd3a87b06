/-
  The document's ledger: move, Do, Of. Conditions: none beside each theorem's own.
-/
import Derived.Test.YtbmmknchcdhefaaGreatDoorSxT
import Derived.Test.YtbmmknchcdhefaaGreatDoorRefA
namespace Go.Proofs.YtbmmknchcdhefaaGreatDoor
open Go.RowKit Go.Sx
set_option linter.unusedVariables false
set_option linter.unusedSimpArgs false
set_option linter.unnecessarySimpa false
set_option maxRecDepth 100000
theorem rset_len (l : List ItemV) (k v : ByteArray) : (rset l k v).length ≤ l.length + 1 := by
  have h := fnd_le l k
  unfold rset
  split <;> simp only [List.length_append, List.length_take, List.length_drop, List.length_cons, List.length_nil] <;> omega
theorem rget_snd (l : List ItemV) (k : ByteArray) : (rget l k).2 = fis l k := by
  unfold rget
  cases fis l k <;> rfl
theorem rget_fst {l : List ItemV} {k : ByteArray} : (rget l k).1 = if fis l k = true then (l.getD (fnd l k) dItem).value else ⟨#[]⟩ := by
  unfold rget
  cases fis l k <;> rfl
theorem rget_size {l : List ItemV} {k : ByteArray} (h : ∀ x ∈ l, x.value.size ≤ 281474976710656) : (rget l k).1.size ≤ 281474976710656 := by
  rw [rget_fst]
  split
  · rename_i hf; exact h _ (getD_mem (fis_lt hf))
  · decide
theorem num_range (s : ByteArray) : 0 ≤ (num s).1 ∧ (num s).1 < 18446744073709551616 := by
  unfold num
  split
  · rename_i h
    have h1 := nvl_lt h.2.2
    have h2 : 10 ^ s.data.toList.length ≤ 10 ^ 16 := Nat.pow_le_pow_right (by decide) h.2.1
    simp only
    omega
  · decide
def rmove (l : List ItemV) (o : OpV) (v : ByteArray) : RepV × List ItemV :=
  if ((!((num v).2)) || (((rget l o.dest).2) && (!((num ((rget l o.dest).1)).2)))) = true then
    ((⟨5, (⟨#[]⟩ : ByteArray)⟩ : RepV), l)
  else
    if (decide (((num v).1 : Int) < o.amount)) = true then
      ((⟨14, v⟩ : RepV), l)
    else
      if (decide ((IntKind.u64.wrap (((num ((rget l o.dest).1)).1) + o.amount) : Int) > 1125899906842624)) = true then
        ((⟨6, (⟨#[]⟩ : ByteArray)⟩ : RepV), l)
      else
        if ((!((rget l o.dest).2)) && (decide (((l.length : Nat) : Int) ≥ 64))) = true then
          ((⟨7, (⟨#[]⟩ : ByteArray)⟩ : RepV), l)
        else
          ((⟨0, dec (((num v).1) - o.amount)⟩ : RepV), rset (rset l o.key (dec (((num v).1) - o.amount))) o.dest (dec (IntKind.u64.wrap (((num ((rget l o.dest).1)).1) + o.amount))))
theorem rmove_spec {w0 w : World} {L : List Asn} {q : Nat} {ad : Option Addr} {c : Nat} (l : List ItemV) (o : OpV) (v : ByteArray) (hl : l.length ≤ 10000000) (hsv : ∀ x ∈ l, x.value.size ≤ 281474976710656) (ha : 0 ≤ o.amount) (hv : v.size ≤ 281474976710656) (hs : St w0 ((Cel q #[.slice ad l.length c] 105) :: (Sl ad c 142 2 ItemV.cells l) :: L) w) : Calls Tryz.prog 73 #[vp q 0, .agg (OpV.cells o), .string v] w (Ret fun rv w' => ∃ (ad2 : Option Addr) (c2 : Nat), rv = .agg (RepV.cells ((rmove l o v).1)) ∧ St w0 ((Cel q #[.slice ad2 (((rmove l o v).2).length) c2] 105) :: (Sl ad2 c2 142 2 ItemV.cells ((rmove l o v).2)) :: L) w') := by
  refine enter (args := [vp q 0, .agg (OpV.cells o), .string v]) Tryz.func73 rfl Tryz.ntmps73 (Nat.le_of_ble_eq_true (by kernel_rfl)) ?_
  refine GoC.slots (S' := [(0, vp q 0), (1, .agg (OpV.cells o)), (2, .string v)]) rfl ?_
  refine GoC.seq ?_
  refine Xt (.ef 0 (.ef 1 .done)) ?_
  refine GoR.box rfl rfl (by kernel_rfl) (v := .agg (OpV.cells o)) (by kernel_rfl) hs (cs := OpV.cells o) (by kernel_rfl) ?_
  intro b1 w2 hs3
  refine ⟨Xo, ?_⟩
  refine GoR.alloc rfl rfl (by kernel_rfl) (z := .agg #[.int .i64 0, .string (⟨#[]⟩ : ByteArray)]) (by kernel_rfl) hs3 (cs := #[.int .i64 0, .string (⟨#[]⟩ : ByteArray)]) (by kernel_rfl) ?_
  intro b4 w5 hs6
  refine ⟨Xo, ?_⟩
  refine GoR.done (GoQ.thn (GoC.seq ?_))
  refine Xt (.rd 0 (.ef 1 (.rd 2 (.rd 3 (.rd 4 (.rd 5 (.rd 6 .done))))))) ?_
  refine Xk [(0, .gen [])] [] [(15, .string v), (6, vp b4 0), (4, vp b1 0), (0, vp q 0), (2, .string v)] ak0 ?_
  refine Xa (f := 79) (args := #[.string v]) Tryz.call79 (num_spec v hv hs6) ?_
  rintro v8 w9 ⟨rfl, hs7⟩
  refine ⟨Xo, ?_⟩
  refine Xk [(2, .gen []), (3, .gen []), (4, .gen []), (5, .gen []), (6, .gen [])] [] [(8, .bool ((num v).2)), (7, .int .u64 ((num v).1)), (6, vp b4 0), (4, vp b1 0), (0, vp q 0), (2, .string v)] ak0 ?_
  refine GoR.done (GoQ.thn (GoC.seq ?_))
  refine Xt (.rd 0 (.rd 1 (.rd 2 (.ef 3 (.rd 4 (.rd 5 (.rd 6 (.rd 7 (.rd 8 .done))))))))) ?_
  refine Xk [(0, .gen []), (1, .gen []), (2, .gen [.string o.dest])] [(2, [.cell ⟨b1, 4, none⟩ (.string o.dest)])] [(22, .string o.dest), (20, vp q 0), (8, .bool ((num v).2)), (7, .int .u64 ((num v).1)), (6, vp b4 0), (4, vp b1 0), (0, vp q 0), (2, .string v)] (ak (okc (hs7.cell 1 rfl (by kernel_rfl)) ok0) ak0) ?_
  have hs10 : St w0 ((Cel q #[.slice ad l.length c] 105) :: (Sl ad c 142 2 ItemV.cells l) :: (Cel b4 #[.int .i64 0, .string (⟨#[]⟩ : ByteArray)] 51) :: (Cel b1 (OpV.cells o) 44) :: L) w9 := ((hs7.pull 3 rfl).pull 3 rfl)
  refine Xa (f := 70) (args := #[vp q 0, .string o.dest]) Tryz.call70 (rget_spec l o.dest (by first | assumption | omega) hs10) ?_
  rintro v12 w13 ⟨rfl, hs11⟩
  refine ⟨Xo, ?_⟩
  refine Xk [(4, .gen []), (5, .gen []), (6, .gen []), (7, .gen []), (8, .gen [])] [] [(10, .bool ((rget l o.dest).2)), (9, .string ((rget l o.dest).1)), (8, .bool ((num v).2)), (7, .int .u64 ((num v).1)), (6, vp b4 0), (4, vp b1 0), (0, vp q 0), (2, .string v)] ak0 ?_
  refine GoR.done (GoQ.thn (GoC.seq ?_))
  refine Xt (.rd 0 (.ef 1 (.rd 2 (.rd 3 (.rd 4 (.rd 5 (.rd 6 .done))))))) ?_
  refine Xk [(0, .gen [])] [] [(27, .string ((rget l o.dest).1)), (10, .bool ((rget l o.dest).2)), (8, .bool ((num v).2)), (7, .int .u64 ((num v).1)), (6, vp b4 0), (4, vp b1 0), (0, vp q 0), (2, .string v)] ak0 ?_
  refine Xa (f := 79) (args := #[.string ((rget l o.dest).1)]) Tryz.call79 (num_spec ((rget l o.dest).1) (rget_size hsv) hs11) ?_
  rintro v15 w16 ⟨rfl, hs14⟩
  refine ⟨Xo, ?_⟩
  refine Xk [(2, .gen []), (3, .gen []), (4, .gen []), (5, .gen []), (6, .gen [])] [] [(12, .bool ((num ((rget l o.dest).1)).2)), (11, .int .u64 ((num ((rget l o.dest).1)).1)), (10, .bool ((rget l o.dest).2)), (8, .bool ((num v).2)), (7, .int .u64 ((num v).1)), (6, vp b4 0), (4, vp b1 0), (0, vp q 0), (2, .string v)] ak0 ?_
  refine GoR.done (GoQ.thn (GoC.seq (GoC.seq ?_)))
  refine GoC.join (T := Unit) (E := fun _ => [(39, .bool ((!((num v).2)) || (((rget l o.dest).2) && (!((num ((rget l o.dest).1)).2))))), (11, .int .u64 ((num ((rget l o.dest).1)).1)), (10, .bool ((rget l o.dest).2)), (7, .int .u64 ((num v).1)), (6, vp b4 0), (4, vp b1 0), (0, vp q 0), (2, .string v)]) (F := fun _ w => St w0 ((Cel q #[.slice ad l.length c] 105) :: (Sl ad c 142 2 ItemV.cells l) :: (Cel b4 #[.int .i64 0, .string (⟨#[]⟩ : ByteArray)] 51) :: (Cel b1 (OpV.cells o) 44) :: L) w) ?_ ?_
  · refine Xt (.rd 0 (.rd 1 (.rd 2 (.rd 3 (.rd 4 (.rd 5 (.rd 6 (.rd 7 (.rd 8 .done))))))))) ?_
    refine Xk [(0, .gen []), (1, .gen []), (2, .gen [])] [] [(33, .bool (!((num v).2))), (12, .bool ((num ((rget l o.dest).1)).2)), (11, .int .u64 ((num ((rget l o.dest).1)).1)), (10, .bool ((rget l o.dest).2)), (7, .int .u64 ((num v).1)), (6, vp b4 0), (4, vp b1 0), (0, vp q 0), (2, .string v)] ak0 ?_
    rcases Bool.eq_false_or_eq_true (!((num v).2)) with h17 | h17
    · refine Xs 33 true h17 ?_
      have h17n : ((num v).2) = false := notT h17
      refine Xk [(3, .gen []), (4, .gen []), (5, .gen []), (6, .gen []), (7, .gen []), (8, .gen [])] [] [(39, .bool true), (11, .int .u64 ((num ((rget l o.dest).1)).1)), (10, .bool ((rget l o.dest).2)), (7, .int .u64 ((num v).1)), (6, vp b4 0), (4, vp b1 0), (0, vp q 0), (2, .string v)] ak0 ?_
      refine GoR.done ?_
      refine GoQ.pick [39, 11, 10, 7, 6, 4, 0, 2] (S' := [(39, .bool true), (11, .int .u64 ((num ((rget l o.dest).1)).1)), (10, .bool ((rget l o.dest).2)), (7, .int .u64 ((num v).1)), (6, vp b4 0), (4, vp b1 0), (0, vp q 0), (2, .string v)]) (by kernel_rfl) ?_
      exact GoQ.meet1 () (by first | rfl | (simp only [h17, h17n, Bool.not_true, Bool.not_false, Bool.true_or, Bool.false_or, Bool.true_and, Bool.false_and, Bool.or_true, Bool.or_false, Bool.and_true, Bool.and_false]; done) | (simp [h17, h17n]; done)) hs14
    · refine Xs 33 false h17 ?_
      have h17n : ((num v).2) = true := notF h17
      refine Xk [(3, .gen []), (4, .gen [])] [] [(35, .bool ((rget l o.dest).2)), (33, .bool false), (12, .bool ((num ((rget l o.dest).1)).2)), (11, .int .u64 ((num ((rget l o.dest).1)).1)), (10, .bool ((rget l o.dest).2)), (7, .int .u64 ((num v).1)), (6, vp b4 0), (4, vp b1 0), (0, vp q 0), (2, .string v)] ak0 ?_
      rcases Bool.eq_false_or_eq_true ((rget l o.dest).2) with h18 | h18
      · refine Xs 35 true h18 ?_
        refine Xk [(5, .gen []), (6, .gen []), (7, .gen []), (8, .gen [])] [] [(39, .bool (!((num ((rget l o.dest).1)).2))), (11, .int .u64 ((num ((rget l o.dest).1)).1)), (10, .bool ((rget l o.dest).2)), (7, .int .u64 ((num v).1)), (6, vp b4 0), (4, vp b1 0), (0, vp q 0), (2, .string v)] ak0 ?_
        refine GoR.done ?_
        refine GoQ.pick [39, 11, 10, 7, 6, 4, 0, 2] (S' := [(39, .bool (!((num ((rget l o.dest).1)).2))), (11, .int .u64 ((num ((rget l o.dest).1)).1)), (10, .bool ((rget l o.dest).2)), (7, .int .u64 ((num v).1)), (6, vp b4 0), (4, vp b1 0), (0, vp q 0), (2, .string v)]) (by kernel_rfl) ?_
        exact GoQ.meet1 () (by first | rfl | (simp only [h17, h17n, h18, Bool.not_true, Bool.not_false, Bool.true_or, Bool.false_or, Bool.true_and, Bool.false_and, Bool.or_true, Bool.or_false, Bool.and_true, Bool.and_false]; done) | (simp [h17, h17n, h18]; done)) hs14
      · refine Xs 35 false h18 ?_
        refine Xk [(5, .gen []), (6, .gen []), (7, .gen []), (8, .gen [])] [] [(39, .bool false), (11, .int .u64 ((num ((rget l o.dest).1)).1)), (10, .bool ((rget l o.dest).2)), (7, .int .u64 ((num v).1)), (6, vp b4 0), (4, vp b1 0), (0, vp q 0), (2, .string v)] ak0 ?_
        refine GoR.done ?_
        refine GoQ.pick [39, 11, 10, 7, 6, 4, 0, 2] (S' := [(39, .bool false), (11, .int .u64 ((num ((rget l o.dest).1)).1)), (10, .bool ((rget l o.dest).2)), (7, .int .u64 ((num v).1)), (6, vp b4 0), (4, vp b1 0), (0, vp q 0), (2, .string v)]) (by kernel_rfl) ?_
        exact GoQ.meet1 () (by first | rfl | (simp only [h17, h17n, h18, Bool.not_true, Bool.not_false, Bool.true_or, Bool.false_or, Bool.true_and, Bool.false_and, Bool.or_true, Bool.or_false, Bool.and_true, Bool.and_false]; done) | (simp [h17, h17n, h18]; done)) hs14
  intro _ w19 hs20
  refine GoQ.thn ?_
  refine Xc (t := (!((num v).2)) || (((rget l o.dest).2) && (!((num ((rget l o.dest).1)).2)))) (fun h21 => ?_) (fun h21 => ?_)
  · refine GoC.seq ?_
    refine Xt (.rd 0 (.ef 1 .done)) ?_
    refine Xk [(0, .gen [])] [] [(40, .agg #[.int .i64 5, .string (⟨#[]⟩ : ByteArray)]), (11, .int .u64 ((num ((rget l o.dest).1)).1)), (10, .bool ((rget l o.dest).2)), (7, .int .u64 ((num v).1)), (6, vp b4 0), (4, vp b1 0), (0, vp q 0), (2, .string v)] ak0 ?_
    refine GoR.store rfl rfl (by kernel_rfl) (b := b4) (off := 0) (v := .agg #[.int .i64 5, .string (⟨#[]⟩ : ByteArray)]) (by kernel_rfl) (by kernel_rfl) (ti := Tryz.t51) (by kernel_rfl) hs20 2 rfl (by kernel_rfl) (by kernel_rfl) (Nat.le_of_ble_eq_true (by kernel_rfl)) (cs' := #[.int .i64 5, .string (⟨#[]⟩ : ByteArray)]) (L' := (Cel q #[.slice ad l.length c] 105) :: (Sl ad c 142 2 ItemV.cells l) :: (Cel b4 #[.int .i64 5, .string (⟨#[]⟩ : ByteArray)] 51) :: (Cel b1 (OpV.cells o) 44) :: L) (by kernel_rfl) rfl ?_
    intro w22 hs23
    refine ⟨Xo, ?_⟩
    refine GoR.done (GoQ.thn (GoC.ret (GoQ.skipCR ?_)))
    refine GoQ.done (.inl rfl) (v := .agg #[.int .i64 5, .string (⟨#[]⟩ : ByteArray)]) (fun a hf => resultsA rfl (by kernel_rfl) (ti := Tryz.t51) (by kernel_rfl) (by kernel_rfl) (vs := #[.int .i64 5, .string (⟨#[]⟩ : ByteArray)]) (by kernel_rfl) (hs23.cells 2 0 rfl (by kernel_rfl)) a hf) ?_
    have hr : rmove l o v = ((⟨5, (⟨#[]⟩ : ByteArray)⟩ : RepV), l) := by rw [rmove, if_pos h21]
    have hs24 : St w0 ((Cel b4 #[.int .i64 5, .string (⟨#[]⟩ : ByteArray)] 51) :: (Cel b1 (OpV.cells o) 44) :: (Cel q #[.slice ad l.length c] 105) :: (Sl ad c 142 2 ItemV.cells l) :: L) w22 := ((((hs23.pull 1 rfl).pull 1 rfl).pull 3 rfl).pull 3 rfl)
    have hs25 : St w0 ((Cel q #[.slice ad l.length c] 105) :: (Sl ad c 142 2 ItemV.cells l) :: L) w22 := hs24.drop 2
    exact ⟨ad, c, (by first | rfl | (rw [hr]; done) | (rw [hr]; rfl)), (by first | exact hs25 | (rw [hr]; exact hs25))⟩
  · have h21a : (!((num v).2)) = false := (Bool.or_eq_false_iff.1 h21).1
    have h21an : ((num v).2) = true := notF h21a
    have h21b : (((rget l o.dest).2) && (!((num ((rget l o.dest).1)).2))) = false := (Bool.or_eq_false_iff.1 h21).2
    refine GoC.skip (GoQ.thn (GoC.seq (GoC.seq ?_)))
    refine Xt (.rd 0 (.rd 1 (.rd 2 (.rd 3 .done)))) ?_
    refine Xk [(0, .gen []), (1, .gen []), (2, .gen [.int .u64 o.amount]), (3, .gen [])] [(2, [.cell ⟨b1, 5, none⟩ (.int .u64 o.amount)])] [(44, .bool (decide (((num v).1 : Int) < o.amount))), (11, .int .u64 ((num ((rget l o.dest).1)).1)), (10, .bool ((rget l o.dest).2)), (7, .int .u64 ((num v).1)), (6, vp b4 0), (4, vp b1 0), (0, vp q 0), (2, .string v)] (ak (okc (hs20.cell 3 rfl (by kernel_rfl)) ok0) ak0) ?_
    refine GoR.done (GoQ.thn ?_)
    refine Xc (t := decide (((num v).1 : Int) < o.amount)) (fun h26 => ?_) (fun h26 => ?_)
    · have h26' : ((num v).1 : Int) < o.amount := of_decide_eq_true h26
      refine GoC.seq ?_
      refine Xt (.rd 0 (.rd 1 (.ef 2 .done))) ?_
      refine Xk [(0, .gen []), (1, .gen [])] [] [(46, .agg #[.int .i64 14, .string v]), (11, .int .u64 ((num ((rget l o.dest).1)).1)), (10, .bool ((rget l o.dest).2)), (7, .int .u64 ((num v).1)), (6, vp b4 0), (4, vp b1 0), (0, vp q 0)] ak0 ?_
      refine GoR.store rfl rfl (by kernel_rfl) (b := b4) (off := 0) (v := .agg #[.int .i64 14, .string v]) (by kernel_rfl) (by kernel_rfl) (ti := Tryz.t51) (by kernel_rfl) hs20 2 rfl (by kernel_rfl) (by kernel_rfl) (Nat.le_of_ble_eq_true (by kernel_rfl)) (cs' := #[.int .i64 14, .string v]) (L' := (Cel q #[.slice ad l.length c] 105) :: (Sl ad c 142 2 ItemV.cells l) :: (Cel b4 #[.int .i64 14, .string v] 51) :: (Cel b1 (OpV.cells o) 44) :: L) (by kernel_rfl) rfl ?_
      intro w27 hs28
      refine ⟨Xo, ?_⟩
      refine GoR.done (GoQ.thn (GoC.ret (GoQ.skipCR ?_)))
      refine GoQ.done (.inl rfl) (v := .agg #[.int .i64 14, .string v]) (fun a hf => resultsA rfl (by kernel_rfl) (ti := Tryz.t51) (by kernel_rfl) (by kernel_rfl) (vs := #[.int .i64 14, .string v]) (by kernel_rfl) (hs28.cells 2 0 rfl (by kernel_rfl)) a hf) ?_
      have hr : rmove l o v = ((⟨14, v⟩ : RepV), l) := by rw [rmove, if_neg (ne_true_of_eq_false h21), if_pos h26]
      have hs29 : St w0 ((Cel b4 #[.int .i64 14, .string v] 51) :: (Cel b1 (OpV.cells o) 44) :: (Cel q #[.slice ad l.length c] 105) :: (Sl ad c 142 2 ItemV.cells l) :: L) w27 := ((((hs28.pull 1 rfl).pull 1 rfl).pull 3 rfl).pull 3 rfl)
      have hs30 : St w0 ((Cel q #[.slice ad l.length c] 105) :: (Sl ad c 142 2 ItemV.cells l) :: L) w27 := hs29.drop 2
      exact ⟨ad, c, (by first | rfl | (rw [hr]; done) | (rw [hr]; rfl)), (by first | exact hs30 | (rw [hr]; exact hs30))⟩
    · have h26' : ¬ (((num v).1 : Int) < o.amount) := of_decide_eq_false h26
      refine GoC.skip (GoQ.thn (GoC.seq (GoC.seq ?_)))
      refine Xt (.rd 0 (.rd 1 (.rd 2 (.rd 3 (.rd 4 .done))))) ?_
      refine Xk [(0, .gen []), (1, .gen []), (2, .gen [.int .u64 o.amount]), (3, .gen []), (4, .gen [])] [(2, [.cell ⟨b1, 5, none⟩ (.int .u64 o.amount)])] [(51, .bool (decide ((IntKind.u64.wrap (((num ((rget l o.dest).1)).1) + o.amount) : Int) > 1125899906842624))), (11, .int .u64 ((num ((rget l o.dest).1)).1)), (10, .bool ((rget l o.dest).2)), (7, .int .u64 ((num v).1)), (6, vp b4 0), (4, vp b1 0), (0, vp q 0)] (ak (okc (hs20.cell 3 rfl (by kernel_rfl)) ok0) ak0) ?_
      refine GoR.done (GoQ.thn ?_)
      refine Xc (t := decide ((IntKind.u64.wrap (((num ((rget l o.dest).1)).1) + o.amount) : Int) > 1125899906842624)) (fun h31 => ?_) (fun h31 => ?_)
      · have h31' : (IntKind.u64.wrap (((num ((rget l o.dest).1)).1) + o.amount) : Int) > 1125899906842624 := of_decide_eq_true h31
        refine GoC.seq ?_
        refine Xt (.rd 0 (.ef 1 .done)) ?_
        refine Xk [(0, .gen [])] [] [(52, .agg #[.int .i64 6, .string (⟨#[]⟩ : ByteArray)]), (11, .int .u64 ((num ((rget l o.dest).1)).1)), (10, .bool ((rget l o.dest).2)), (7, .int .u64 ((num v).1)), (6, vp b4 0), (4, vp b1 0), (0, vp q 0)] ak0 ?_
        refine GoR.store rfl rfl (by kernel_rfl) (b := b4) (off := 0) (v := .agg #[.int .i64 6, .string (⟨#[]⟩ : ByteArray)]) (by kernel_rfl) (by kernel_rfl) (ti := Tryz.t51) (by kernel_rfl) hs20 2 rfl (by kernel_rfl) (by kernel_rfl) (Nat.le_of_ble_eq_true (by kernel_rfl)) (cs' := #[.int .i64 6, .string (⟨#[]⟩ : ByteArray)]) (L' := (Cel q #[.slice ad l.length c] 105) :: (Sl ad c 142 2 ItemV.cells l) :: (Cel b4 #[.int .i64 6, .string (⟨#[]⟩ : ByteArray)] 51) :: (Cel b1 (OpV.cells o) 44) :: L) (by kernel_rfl) rfl ?_
        intro w32 hs33
        refine ⟨Xo, ?_⟩
        refine GoR.done (GoQ.thn (GoC.ret (GoQ.skipCR ?_)))
        refine GoQ.done (.inl rfl) (v := .agg #[.int .i64 6, .string (⟨#[]⟩ : ByteArray)]) (fun a hf => resultsA rfl (by kernel_rfl) (ti := Tryz.t51) (by kernel_rfl) (by kernel_rfl) (vs := #[.int .i64 6, .string (⟨#[]⟩ : ByteArray)]) (by kernel_rfl) (hs33.cells 2 0 rfl (by kernel_rfl)) a hf) ?_
        have hr : rmove l o v = ((⟨6, (⟨#[]⟩ : ByteArray)⟩ : RepV), l) := by rw [rmove, if_neg (ne_true_of_eq_false h21), if_neg (ne_true_of_eq_false h26), if_pos h31]
        have hs34 : St w0 ((Cel b4 #[.int .i64 6, .string (⟨#[]⟩ : ByteArray)] 51) :: (Cel b1 (OpV.cells o) 44) :: (Cel q #[.slice ad l.length c] 105) :: (Sl ad c 142 2 ItemV.cells l) :: L) w32 := ((((hs33.pull 1 rfl).pull 1 rfl).pull 3 rfl).pull 3 rfl)
        have hs35 : St w0 ((Cel q #[.slice ad l.length c] 105) :: (Sl ad c 142 2 ItemV.cells l) :: L) w32 := hs34.drop 2
        exact ⟨ad, c, (by first | rfl | (rw [hr]; done) | (rw [hr]; rfl)), (by first | exact hs35 | (rw [hr]; exact hs35))⟩
      · have h31' : ¬ ((IntKind.u64.wrap (((num ((rget l o.dest).1)).1) + o.amount) : Int) > 1125899906842624) := of_decide_eq_false h31
        refine GoC.skip (GoQ.thn (GoC.seq (GoC.seq ?_)))
        refine GoC.join (T := Unit) (E := fun _ => [(62, .bool ((!((rget l o.dest).2)) && (decide (((l.length : Nat) : Int) ≥ 64)))), (11, .int .u64 ((num ((rget l o.dest).1)).1)), (7, .int .u64 ((num v).1)), (6, vp b4 0), (4, vp b1 0), (0, vp q 0)]) (F := fun _ w => St w0 ((Cel q #[.slice ad l.length c] 105) :: (Sl ad c 142 2 ItemV.cells l) :: (Cel b4 #[.int .i64 0, .string (⟨#[]⟩ : ByteArray)] 51) :: (Cel b1 (OpV.cells o) 44) :: L) w) ?_ ?_
        · refine Xt (.rd 0 (.rd 1 (.rd 2 (.rd 3 (.rd 4 (.rd 5 (.rd 6 (.rd 7 (.rd 8 (.rd 9 .done)))))))))) ?_
          refine Xk [(0, .gen []), (1, .gen []), (2, .gen [])] [] [(55, .bool (!((rget l o.dest).2))), (11, .int .u64 ((num ((rget l o.dest).1)).1)), (7, .int .u64 ((num v).1)), (6, vp b4 0), (4, vp b1 0), (0, vp q 0)] ak0 ?_
          rcases Bool.eq_false_or_eq_true (!((rget l o.dest).2)) with h36 | h36
          · refine Xs 55 true h36 ?_
            have h36n : ((rget l o.dest).2) = false := notT h36
            refine Xk [(3, .gen []), (4, .gen []), (5, .gen []), (6, .gen [.slice ad l.length c]), (7, .gen []), (8, .gen []), (9, .gen [])] [(6, [.cell ⟨q, 0, none⟩ (.slice ad l.length c)])] [(62, .bool (decide (((l.length : Nat) : Int) ≥ 64))), (11, .int .u64 ((num ((rget l o.dest).1)).1)), (7, .int .u64 ((num v).1)), (6, vp b4 0), (4, vp b1 0), (0, vp q 0)] (ak (okc (hs20.cell 0 rfl (by kernel_rfl)) ok0) ak0) ?_
            refine GoR.done ?_
            refine GoQ.pick [62, 11, 7, 6, 4, 0] (S' := [(62, .bool (decide (((l.length : Nat) : Int) ≥ 64))), (11, .int .u64 ((num ((rget l o.dest).1)).1)), (7, .int .u64 ((num v).1)), (6, vp b4 0), (4, vp b1 0), (0, vp q 0)]) (by kernel_rfl) ?_
            exact GoQ.meet1 () (by first | rfl | (simp only [h36, h36n, Bool.not_true, Bool.not_false, Bool.true_or, Bool.false_or, Bool.true_and, Bool.false_and, Bool.or_true, Bool.or_false, Bool.and_true, Bool.and_false]; done) | (simp [h36, h36n]; done)) hs20
          · refine Xs 55 false h36 ?_
            have h36n : ((rget l o.dest).2) = true := notF h36
            refine Xk [(3, .gen []), (4, .gen []), (5, .gen []), (6, .gen []), (7, .gen []), (8, .gen []), (9, .gen [])] [] [(62, .bool false), (11, .int .u64 ((num ((rget l o.dest).1)).1)), (7, .int .u64 ((num v).1)), (6, vp b4 0), (4, vp b1 0), (0, vp q 0)] ak0 ?_
            refine GoR.done ?_
            refine GoQ.pick [62, 11, 7, 6, 4, 0] (S' := [(62, .bool false), (11, .int .u64 ((num ((rget l o.dest).1)).1)), (7, .int .u64 ((num v).1)), (6, vp b4 0), (4, vp b1 0), (0, vp q 0)]) (by kernel_rfl) ?_
            exact GoQ.meet1 () (by first | rfl | (simp only [h36, h36n, Bool.not_true, Bool.not_false, Bool.true_or, Bool.false_or, Bool.true_and, Bool.false_and, Bool.or_true, Bool.or_false, Bool.and_true, Bool.and_false]; done) | (simp [h36, h36n]; done)) hs20
        intro _ w37 hs38
        refine GoQ.thn ?_
        refine Xc (t := (!((rget l o.dest).2)) && (decide (((l.length : Nat) : Int) ≥ 64))) (fun h39 => ?_) (fun h39 => ?_)
        · have h39a : (!((rget l o.dest).2)) = true := (Bool.and_eq_true_iff.1 h39).1
          have h39an : ((rget l o.dest).2) = false := notT h39a
          have h39b : (decide (((l.length : Nat) : Int) ≥ 64)) = true := (Bool.and_eq_true_iff.1 h39).2
          have h39b' : ((l.length : Nat) : Int) ≥ 64 := of_decide_eq_true h39b
          refine GoC.seq ?_
          refine Xt (.rd 0 (.ef 1 .done)) ?_
          refine Xk [(0, .gen [])] [] [(63, .agg #[.int .i64 7, .string (⟨#[]⟩ : ByteArray)]), (11, .int .u64 ((num ((rget l o.dest).1)).1)), (7, .int .u64 ((num v).1)), (6, vp b4 0), (4, vp b1 0), (0, vp q 0)] ak0 ?_
          refine GoR.store rfl rfl (by kernel_rfl) (b := b4) (off := 0) (v := .agg #[.int .i64 7, .string (⟨#[]⟩ : ByteArray)]) (by kernel_rfl) (by kernel_rfl) (ti := Tryz.t51) (by kernel_rfl) hs38 2 rfl (by kernel_rfl) (by kernel_rfl) (Nat.le_of_ble_eq_true (by kernel_rfl)) (cs' := #[.int .i64 7, .string (⟨#[]⟩ : ByteArray)]) (L' := (Cel q #[.slice ad l.length c] 105) :: (Sl ad c 142 2 ItemV.cells l) :: (Cel b4 #[.int .i64 7, .string (⟨#[]⟩ : ByteArray)] 51) :: (Cel b1 (OpV.cells o) 44) :: L) (by kernel_rfl) rfl ?_
          intro w40 hs41
          refine ⟨Xo, ?_⟩
          refine GoR.done (GoQ.thn (GoC.ret (GoQ.skipCR ?_)))
          refine GoQ.done (.inl rfl) (v := .agg #[.int .i64 7, .string (⟨#[]⟩ : ByteArray)]) (fun a hf => resultsA rfl (by kernel_rfl) (ti := Tryz.t51) (by kernel_rfl) (by kernel_rfl) (vs := #[.int .i64 7, .string (⟨#[]⟩ : ByteArray)]) (by kernel_rfl) (hs41.cells 2 0 rfl (by kernel_rfl)) a hf) ?_
          have hr : rmove l o v = ((⟨7, (⟨#[]⟩ : ByteArray)⟩ : RepV), l) := by rw [rmove, if_neg (ne_true_of_eq_false h21), if_neg (ne_true_of_eq_false h26), if_neg (ne_true_of_eq_false h31), if_pos h39]
          have hs42 : St w0 ((Cel b4 #[.int .i64 7, .string (⟨#[]⟩ : ByteArray)] 51) :: (Cel b1 (OpV.cells o) 44) :: (Cel q #[.slice ad l.length c] 105) :: (Sl ad c 142 2 ItemV.cells l) :: L) w40 := ((((hs41.pull 1 rfl).pull 1 rfl).pull 3 rfl).pull 3 rfl)
          have hs43 : St w0 ((Cel q #[.slice ad l.length c] 105) :: (Sl ad c 142 2 ItemV.cells l) :: L) w40 := hs42.drop 2
          exact ⟨ad, c, (by first | rfl | (rw [hr]; done) | (rw [hr]; rfl)), (by first | exact hs43 | (rw [hr]; exact hs43))⟩
        · refine GoC.skip (GoQ.thn (GoC.seq ?_))
          have hnr := num_range v
          refine Xt (.rd 0 (.rd 1 (.rd 2 (.rd 3 (.ef 4 (.rd 5 .done)))))) ?_
          refine Xk [(0, .gen []), (1, .gen []), (2, .gen [.int .u64 o.amount]), (3, .as_ (.int .u64 (((num v).1) - o.amount)) (.gen []))] [(2, [.cell ⟨b1, 5, none⟩ (.int .u64 o.amount)]), (3, [.prop (Value.int .u64 (IntKind.u64.wrap (((num v).1) - o.amount)) = Value.int .u64 (((num v).1) - o.amount))])] [(67, .int .u64 (((num v).1) - o.amount)), (11, .int .u64 ((num ((rget l o.dest).1)).1)), (6, vp b4 0), (4, vp b1 0), (0, vp q 0)] (ak (okc (hs38.cell 3 rfl (by kernel_rfl)) ok0) (ak (okp (u64ok (by omega) (by omega)) ok0) ak0)) ?_
          refine Xa (f := 80) (args := #[.int .u64 (((num v).1) - o.amount)]) Tryz.call80 (digits_spec (((num v).1) - o.amount) (by first | assumption | omega) (by first | assumption | omega) hs38) ?_
          rintro v45 w46 ⟨rfl, hs44⟩
          refine ⟨Xo, ?_⟩
          refine Xk [(5, .gen [])] [] [(13, .string (dec (((num v).1) - o.amount))), (11, .int .u64 ((num ((rget l o.dest).1)).1)), (6, vp b4 0), (4, vp b1 0), (0, vp q 0)] ak0 ?_
          refine GoR.done (GoQ.thn (GoC.seq ?_))
          refine Xt (.rd 0 (.rd 1 (.rd 2 (.rd 3 (.ef 4 .done))))) ?_
          refine Xk [(0, .gen []), (1, .gen []), (2, .gen [.string o.key]), (3, .gen [])] [(2, [.cell ⟨b1, 1, none⟩ (.string o.key)])] [(72, .string (dec (((num v).1) - o.amount))), (71, .string o.key), (69, vp q 0), (13, .string (dec (((num v).1) - o.amount))), (11, .int .u64 ((num ((rget l o.dest).1)).1)), (6, vp b4 0), (4, vp b1 0), (0, vp q 0)] (ak (okc (hs44.cell 3 rfl (by kernel_rfl)) ok0) ak0) ?_
          refine Xa (f := 71) (args := #[vp q 0, .string o.key, .string (dec (((num v).1) - o.amount))]) Tryz.call71 (rset_spec l o.key (dec (((num v).1) - o.amount)) (by first | assumption | omega) hs44) ?_
          rintro v50 w51 ⟨ad47, c48, rfl, hs49⟩
          refine ⟨Xo, ?_⟩
          refine GoR.done (GoQ.thn (GoC.seq ?_))
          refine GoC.regD [0, 0, 2, 0, 0, 16, 56, 120, 255] (.rd 0 (.rd 1 (.rd 2 (.rd 3 (.rd 4 (.rd 5 (.rd 6 (.ef 7 (.ef 8 .done))))))))) (by kernel_rfl) (by kernel_rfl) noPan_body (by kernel_rfl) hs49 ?_
          intro w52 hs53 hw54
          refine Xk [(0, .gen []), (1, .gen []), (2, .gen [.string o.dest]), (3, .gen []), (4, .gen []), (5, .gen [.int .u64 o.amount]), (6, .gen [])] [(2, [.cell ⟨b1, 4, none⟩ (.string o.dest)]), (5, [.cell ⟨b1, 5, none⟩ (.int .u64 o.amount)])] [(80, .int .u64 (IntKind.u64.wrap (((num ((rget l o.dest).1)).1) + o.amount))), (76, .string o.dest), (74, vp q 0), (13, .string (dec (((num v).1) - o.amount))), (6, vp b4 0)] (ak (okc (hs53.cell 3 rfl (by kernel_rfl)) ok0) (ak (okc (hs53.cell 3 rfl (by kernel_rfl)) ok0) ak0)) ?_
          refine Xa (f := 80) (args := #[.int .u64 (IntKind.u64.wrap (((num ((rget l o.dest).1)).1) + o.amount))]) Tryz.call80 (digits_spec (IntKind.u64.wrap (((num ((rget l o.dest).1)).1) + o.amount)) (u64wrap_b _).1 (u64wrap_b _).2 hs53) ?_
          rintro v56 w57 ⟨rfl, hs55⟩
          refine ⟨(opl (n := [.cell ⟨b1, 4, none⟩ (.string o.dest)]) (by kernel_rfl) (okc (hs55.cell 3 rfl (by kernel_rfl)) ok0)), ?_⟩
          refine Xa (f := 71) (args := #[vp q 0, .string o.dest, .string (dec (IntKind.u64.wrap (((num ((rget l o.dest).1)).1) + o.amount)))]) Tryz.call71 (rset_spec (rset l o.key (dec (((num v).1) - o.amount))) o.dest (dec (IntKind.u64.wrap (((num ((rget l o.dest).1)).1) + o.amount))) (Nat.le_trans (rset_len _ _ _) (by omega)) hs55) ?_
          rintro v61 w62 ⟨ad58, c59, rfl, hs60⟩
          refine ⟨Xo, ?_⟩
          refine GoR.done (GoQ.thn (GoC.seq ?_))
          refine Xt (.rd 0 (.rd 1 (.ef 2 .done))) ?_
          refine Xk [(0, .gen []), (1, .gen [])] [] [(84, .agg #[.int .i64 0, .string (dec (((num v).1) - o.amount))]), (6, vp b4 0)] ak0 ?_
          refine GoR.store rfl rfl (by kernel_rfl) (b := b4) (off := 0) (v := .agg #[.int .i64 0, .string (dec (((num v).1) - o.amount))]) (by kernel_rfl) (by kernel_rfl) (ti := Tryz.t51) (by kernel_rfl) hs60 2 rfl (by kernel_rfl) (by kernel_rfl) (Nat.le_of_ble_eq_true (by kernel_rfl)) (cs' := #[.int .i64 0, .string (dec (((num v).1) - o.amount))]) (L' := (Cel q #[.slice ad58 ((rset (rset l o.key (dec (((num v).1) - o.amount))) o.dest (dec (IntKind.u64.wrap (((num ((rget l o.dest).1)).1) + o.amount)))).length) c59] 105) :: (Sl ad58 c59 142 2 ItemV.cells (rset (rset l o.key (dec (((num v).1) - o.amount))) o.dest (dec (IntKind.u64.wrap (((num ((rget l o.dest).1)).1) + o.amount))))) :: (Cel b4 #[.int .i64 0, .string (dec (((num v).1) - o.amount))] 51) :: (Cel b1 (OpV.cells o) 44) :: L) (by kernel_rfl) rfl ?_
          intro w63 hs64
          refine ⟨Xo, ?_⟩
          refine GoR.done (GoQ.thn (GoC.ret ?_))
          refine GoQ.done (.inl rfl) (v := .agg #[.int .i64 0, .string (dec (((num v).1) - o.amount))]) (fun a hf => resultsA rfl (by kernel_rfl) (ti := Tryz.t51) (by kernel_rfl) (by kernel_rfl) (vs := #[.int .i64 0, .string (dec (((num v).1) - o.amount))]) (by kernel_rfl) (hs64.cells 2 0 rfl (by kernel_rfl)) a hf) ?_
          have hr : rmove l o v = ((⟨0, dec (((num v).1) - o.amount)⟩ : RepV), rset (rset l o.key (dec (((num v).1) - o.amount))) o.dest (dec (IntKind.u64.wrap (((num ((rget l o.dest).1)).1) + o.amount)))) := by rw [rmove, if_neg (ne_true_of_eq_false h21), if_neg (ne_true_of_eq_false h26), if_neg (ne_true_of_eq_false h31), if_neg (ne_true_of_eq_false h39)]
          have hs65 : St w0 ((Cel b4 #[.int .i64 0, .string (dec (((num v).1) - o.amount))] 51) :: (Cel b1 (OpV.cells o) 44) :: (Cel q #[.slice ad58 ((rset (rset l o.key (dec (((num v).1) - o.amount))) o.dest (dec (IntKind.u64.wrap (((num ((rget l o.dest).1)).1) + o.amount)))).length) c59] 105) :: (Sl ad58 c59 142 2 ItemV.cells (rset (rset l o.key (dec (((num v).1) - o.amount))) o.dest (dec (IntKind.u64.wrap (((num ((rget l o.dest).1)).1) + o.amount))))) :: L) w63 := ((((hs64.pull 1 rfl).pull 1 rfl).pull 3 rfl).pull 3 rfl)
          have hs66 : St w0 ((Cel q #[.slice ad58 ((rset (rset l o.key (dec (((num v).1) - o.amount))) o.dest (dec (IntKind.u64.wrap (((num ((rget l o.dest).1)).1) + o.amount)))).length) c59] 105) :: (Sl ad58 c59 142 2 ItemV.cells (rset (rset l o.key (dec (((num v).1) - o.amount))) o.dest (dec (IntKind.u64.wrap (((num ((rget l o.dest).1)).1) + o.amount))))) :: L) w63 := hs65.drop 2
          exact ⟨ad58, c59, (by first | rfl | (rw [hr]; done) | (rw [hr]; rfl)), (by first | exact hs66 | (rw [hr]; exact hs66))⟩
def rdo (l : List ItemV) (o : OpV) : RepV × List ItemV :=
  if (!(rmay o)) = true then
    ((⟨1, (⟨#[]⟩ : ByteArray)⟩ : RepV), l)
  else
    if ((o.kind : Int) == 2) = true then
      if ((!((rget l o.key).2)) && (decide (((l.length : Nat) : Int) ≥ 64))) = true then
        ((⟨7, (⟨#[]⟩ : ByteArray)⟩ : RepV), l)
      else
        ((⟨0, (⟨#[]⟩ : ByteArray)⟩ : RepV), rset l o.key o.value)
    else
      if (!((rget l o.key).2)) = true then
        ((⟨4, (⟨#[]⟩ : ByteArray)⟩ : RepV), l)
      else
        if ((o.kind : Int) == 3) = true then
          ((⟨0, (rget l o.key).1⟩ : RepV), ((l).take (fnd l o.key)) ++ ((l).drop ((fnd l o.key) + 1)))
        else
          if ((o.kind : Int) == 4) = true then
            if (!(decide (((rget l o.key).1) = o.old))) = true then
              ((⟨15, (rget l o.key).1⟩ : RepV), l)
            else
              ((⟨0, (⟨#[]⟩ : ByteArray)⟩ : RepV), rset l o.key o.value)
          else
            if ((o.kind : Int) == 5) = true then
              ((rmove l o ((rget l o.key).1)).1, (rmove l o ((rget l o.key).1)).2)
            else
              ((⟨0, (rget l o.key).1⟩ : RepV), l)
theorem rdo_spec {w0 w : World} {L : List Asn} {q : Nat} {ad : Option Addr} {c : Nat} (l : List ItemV) (o : OpV) (hl : l.length ≤ 10000000) (hsv : ∀ x ∈ l, x.value.size ≤ 281474976710656) (ha : 0 ≤ o.amount) (hs : St w0 ((Cel q #[.slice ad l.length c] 105) :: (Sl ad c 142 2 ItemV.cells l) :: L) w) : Calls Tryz.prog 66 #[vp q 0, .agg (OpV.cells o)] w (Ret fun rv w' => ∃ (ad2 : Option Addr) (c2 : Nat), rv = .agg (RepV.cells ((rdo l o).1)) ∧ St w0 ((Cel q #[.slice ad2 (((rdo l o).2).length) c2] 105) :: (Sl ad2 c2 142 2 ItemV.cells ((rdo l o).2)) :: L) w') := by
  refine enter (args := [vp q 0, .agg (OpV.cells o)]) Tryz.func66 rfl Tryz.ntmps66 (Nat.le_of_ble_eq_true (by kernel_rfl)) ?_
  refine GoC.slots (S' := [(0, vp q 0), (1, .agg (OpV.cells o))]) rfl ?_
  refine GoC.seq ?_
  refine Xt (.ef 0 (.ef 1 .done)) ?_
  refine GoR.box rfl rfl (by kernel_rfl) (v := .agg (OpV.cells o)) (by kernel_rfl) hs (cs := OpV.cells o) (by kernel_rfl) ?_
  intro b1 w2 hs3
  refine ⟨Xo, ?_⟩
  refine GoR.alloc rfl rfl (by kernel_rfl) (z := .agg #[.int .i64 0, .string (⟨#[]⟩ : ByteArray)]) (by kernel_rfl) hs3 (cs := #[.int .i64 0, .string (⟨#[]⟩ : ByteArray)]) (by kernel_rfl) ?_
  intro b4 w5 hs6
  refine ⟨Xo, ?_⟩
  refine GoR.done (GoQ.thn (GoC.seq (GoC.seq ?_)))
  refine Xt (.rd 0 (.ef 1 (.rd 2 .done))) ?_
  refine Xk [(0, .agg (OpV.cells o))] [(0, [.prop (Array.size (OpV.cells o) = 6), .cells ⟨b1, 0, none⟩ (OpV.cells o)])] [(10, .agg (OpV.cells o)), (4, vp b4 0), (3, vp b1 0), (0, vp q 0)] (ak (okp (by kernel_rfl) (oka (hs6.cells 1 0 rfl (by kernel_rfl)) ok0)) ak0) ?_
  refine Xa (f := 69) (args := #[.agg (OpV.cells o)]) Tryz.call69 (rmay_spec o  hs6) ?_
  rintro v8 w9 ⟨rfl, hs7⟩
  refine ⟨Xo, ?_⟩
  refine Xk [(2, .gen [])] [] [(12, .bool (!(rmay o))), (4, vp b4 0), (3, vp b1 0), (0, vp q 0)] ak0 ?_
  refine GoR.done (GoQ.thn ?_)
  refine Xc (t := !(rmay o)) (fun h10 => ?_) (fun h10 => ?_)
  · have h10n : (rmay o) = false := notT h10
    refine GoC.seq ?_
    refine Xt (.rd 0 (.ef 1 .done)) ?_
    refine Xk [(0, .gen [])] [] [(13, .agg #[.int .i64 1, .string (⟨#[]⟩ : ByteArray)]), (4, vp b4 0), (3, vp b1 0), (0, vp q 0)] ak0 ?_
    refine GoR.store rfl rfl (by kernel_rfl) (b := b4) (off := 0) (v := .agg #[.int .i64 1, .string (⟨#[]⟩ : ByteArray)]) (by kernel_rfl) (by kernel_rfl) (ti := Tryz.t51) (by kernel_rfl) hs7 0 rfl (by kernel_rfl) (by kernel_rfl) (Nat.le_of_ble_eq_true (by kernel_rfl)) (cs' := #[.int .i64 1, .string (⟨#[]⟩ : ByteArray)]) (L' := (Cel b4 #[.int .i64 1, .string (⟨#[]⟩ : ByteArray)] 51) :: (Cel b1 (OpV.cells o) 44) :: (Cel q #[.slice ad l.length c] 105) :: (Sl ad c 142 2 ItemV.cells l) :: L) (by kernel_rfl) rfl ?_
    intro w11 hs12
    refine ⟨Xo, ?_⟩
    refine GoR.done (GoQ.thn (GoC.ret (GoQ.skipCR ?_)))
    refine GoQ.done (.inl rfl) (v := .agg #[.int .i64 1, .string (⟨#[]⟩ : ByteArray)]) (fun a hf => resultsA rfl (by kernel_rfl) (ti := Tryz.t51) (by kernel_rfl) (by kernel_rfl) (vs := #[.int .i64 1, .string (⟨#[]⟩ : ByteArray)]) (by kernel_rfl) (hs12.cells 0 0 rfl (by kernel_rfl)) a hf) ?_
    have hr : rdo l o = ((⟨1, (⟨#[]⟩ : ByteArray)⟩ : RepV), l) := by rw [rdo, if_pos h10]
    have hs13 : St w0 ((Cel q #[.slice ad l.length c] 105) :: (Sl ad c 142 2 ItemV.cells l) :: L) w11 := hs12.drop 2
    exact ⟨ad, c, (by first | rfl | (rw [hr]; done) | (rw [hr]; rfl)), (by first | exact hs13 | (rw [hr]; exact hs13))⟩
  · have h10n : (rmay o) = true := notF h10
    refine GoC.skip (GoQ.thn (GoC.seq ?_))
    refine Xt (.rd 0 (.rd 1 (.rd 2 (.ef 3 (.rd 4 (.rd 5 (.rd 6 (.rd 7 (.rd 8 .done))))))))) ?_
    refine Xk [(0, .gen []), (1, .gen []), (2, .gen [.string o.key])] [(2, [.cell ⟨b1, 1, none⟩ (.string o.key)])] [(17, .string o.key), (15, vp q 0), (4, vp b4 0), (3, vp b1 0), (0, vp q 0)] (ak (okc (hs7.cell 1 rfl (by kernel_rfl)) ok0) ak0) ?_
    have hs14 : St w0 ((Cel q #[.slice ad l.length c] 105) :: (Sl ad c 142 2 ItemV.cells l) :: (Cel b4 #[.int .i64 0, .string (⟨#[]⟩ : ByteArray)] 51) :: (Cel b1 (OpV.cells o) 44) :: L) w9 := ((hs7.pull 3 rfl).pull 3 rfl)
    refine Xa (f := 70) (args := #[vp q 0, .string o.key]) Tryz.call70 (rget_spec l o.key (by first | assumption | omega) hs14) ?_
    rintro v16 w17 ⟨rfl, hs15⟩
    refine ⟨Xo, ?_⟩
    refine Xk [(4, .gen []), (5, .gen []), (6, .gen []), (7, .gen []), (8, .gen [])] [] [(6, .bool ((rget l o.key).2)), (5, .string ((rget l o.key).1)), (4, vp b4 0), (3, vp b1 0), (0, vp q 0)] ak0 ?_
    refine GoR.done (GoQ.thn (GoC.seq (GoC.seq ?_)))
    refine Xt (.rd 0 (.rd 1 (.rd 2 .done))) ?_
    refine Xk [(0, .gen []), (1, .gen [.int .u8 o.kind]), (2, .gen [])] [(1, [.cell ⟨b1, 0, none⟩ (.int .u8 o.kind)])] [(23, .bool ((o.kind : Int) == 2)), (6, .bool ((rget l o.key).2)), (5, .string ((rget l o.key).1)), (4, vp b4 0), (3, vp b1 0), (0, vp q 0)] (ak (okc (hs15.cell 3 rfl (by kernel_rfl)) ok0) ak0) ?_
    refine GoR.done (GoQ.thn ?_)
    refine Xc (t := (o.kind : Int) == 2) (fun h18 => ?_) (fun h18 => ?_)
    · have h18' : (o.kind : Int) = 2 := ieqT h18
      refine GoC.seq (GoC.seq ?_)
      refine GoC.join (T := Unit) (E := fun _ => [(33, .bool ((!((rget l o.key).2)) && (decide (((l.length : Nat) : Int) ≥ 64)))), (6, .bool ((rget l o.key).2)), (5, .string ((rget l o.key).1)), (4, vp b4 0), (3, vp b1 0), (0, vp q 0)]) (F := fun _ w => St w0 ((Cel q #[.slice ad l.length c] 105) :: (Sl ad c 142 2 ItemV.cells l) :: (Cel b4 #[.int .i64 0, .string (⟨#[]⟩ : ByteArray)] 51) :: (Cel b1 (OpV.cells o) 44) :: L) w) ?_ ?_
      · refine Xt (.rd 0 (.rd 1 (.rd 2 (.rd 3 (.rd 4 (.rd 5 (.rd 6 (.rd 7 (.rd 8 (.rd 9 .done)))))))))) ?_
        refine Xk [(0, .gen []), (1, .gen []), (2, .gen [])] [] [(26, .bool (!((rget l o.key).2))), (6, .bool ((rget l o.key).2)), (5, .string ((rget l o.key).1)), (4, vp b4 0), (3, vp b1 0), (0, vp q 0)] ak0 ?_
        rcases Bool.eq_false_or_eq_true (!((rget l o.key).2)) with h19 | h19
        · refine Xs 26 true h19 ?_
          have h19n : ((rget l o.key).2) = false := notT h19
          refine Xk [(3, .gen []), (4, .gen []), (5, .gen []), (6, .gen [.slice ad l.length c]), (7, .gen []), (8, .gen []), (9, .gen [])] [(6, [.cell ⟨q, 0, none⟩ (.slice ad l.length c)])] [(33, .bool (decide (((l.length : Nat) : Int) ≥ 64))), (6, .bool ((rget l o.key).2)), (5, .string ((rget l o.key).1)), (4, vp b4 0), (3, vp b1 0), (0, vp q 0)] (ak (okc (hs15.cell 0 rfl (by kernel_rfl)) ok0) ak0) ?_
          refine GoR.done ?_
          refine GoQ.pick [33, 6, 5, 4, 3, 0] (S' := [(33, .bool (decide (((l.length : Nat) : Int) ≥ 64))), (6, .bool ((rget l o.key).2)), (5, .string ((rget l o.key).1)), (4, vp b4 0), (3, vp b1 0), (0, vp q 0)]) (by kernel_rfl) ?_
          exact GoQ.meet1 () (by first | rfl | (simp only [h19, h19n, Bool.not_true, Bool.not_false, Bool.true_or, Bool.false_or, Bool.true_and, Bool.false_and, Bool.or_true, Bool.or_false, Bool.and_true, Bool.and_false]; done) | (simp [h19, h19n]; done)) hs15
        · refine Xs 26 false h19 ?_
          have h19n : ((rget l o.key).2) = true := notF h19
          refine Xk [(3, .gen []), (4, .gen []), (5, .gen []), (6, .gen []), (7, .gen []), (8, .gen []), (9, .gen [])] [] [(33, .bool false), (6, .bool ((rget l o.key).2)), (5, .string ((rget l o.key).1)), (4, vp b4 0), (3, vp b1 0), (0, vp q 0)] ak0 ?_
          refine GoR.done ?_
          refine GoQ.pick [33, 6, 5, 4, 3, 0] (S' := [(33, .bool false), (6, .bool ((rget l o.key).2)), (5, .string ((rget l o.key).1)), (4, vp b4 0), (3, vp b1 0), (0, vp q 0)]) (by kernel_rfl) ?_
          exact GoQ.meet1 () (by first | rfl | (simp only [h19, h19n, Bool.not_true, Bool.not_false, Bool.true_or, Bool.false_or, Bool.true_and, Bool.false_and, Bool.or_true, Bool.or_false, Bool.and_true, Bool.and_false]; done) | (simp [h19, h19n]; done)) hs15
      intro _ w20 hs21
      refine GoQ.thn ?_
      refine Xc (t := (!((rget l o.key).2)) && (decide (((l.length : Nat) : Int) ≥ 64))) (fun h22 => ?_) (fun h22 => ?_)
      · have h22a : (!((rget l o.key).2)) = true := (Bool.and_eq_true_iff.1 h22).1
        have h22an : ((rget l o.key).2) = false := notT h22a
        have h22b : (decide (((l.length : Nat) : Int) ≥ 64)) = true := (Bool.and_eq_true_iff.1 h22).2
        have h22b' : ((l.length : Nat) : Int) ≥ 64 := of_decide_eq_true h22b
        refine GoC.seq ?_
        refine Xt (.rd 0 (.ef 1 .done)) ?_
        refine Xk [(0, .gen [])] [] [(34, .agg #[.int .i64 7, .string (⟨#[]⟩ : ByteArray)]), (6, .bool ((rget l o.key).2)), (5, .string ((rget l o.key).1)), (4, vp b4 0), (3, vp b1 0), (0, vp q 0)] ak0 ?_
        refine GoR.store rfl rfl (by kernel_rfl) (b := b4) (off := 0) (v := .agg #[.int .i64 7, .string (⟨#[]⟩ : ByteArray)]) (by kernel_rfl) (by kernel_rfl) (ti := Tryz.t51) (by kernel_rfl) hs21 2 rfl (by kernel_rfl) (by kernel_rfl) (Nat.le_of_ble_eq_true (by kernel_rfl)) (cs' := #[.int .i64 7, .string (⟨#[]⟩ : ByteArray)]) (L' := (Cel q #[.slice ad l.length c] 105) :: (Sl ad c 142 2 ItemV.cells l) :: (Cel b4 #[.int .i64 7, .string (⟨#[]⟩ : ByteArray)] 51) :: (Cel b1 (OpV.cells o) 44) :: L) (by kernel_rfl) rfl ?_
        intro w23 hs24
        refine ⟨Xo, ?_⟩
        refine GoR.done (GoQ.thn (GoC.ret (GoQ.skipCR (GoQ.skipCR ?_))))
        refine GoQ.done (.inl rfl) (v := .agg #[.int .i64 7, .string (⟨#[]⟩ : ByteArray)]) (fun a hf => resultsA rfl (by kernel_rfl) (ti := Tryz.t51) (by kernel_rfl) (by kernel_rfl) (vs := #[.int .i64 7, .string (⟨#[]⟩ : ByteArray)]) (by kernel_rfl) (hs24.cells 2 0 rfl (by kernel_rfl)) a hf) ?_
        have hr : rdo l o = ((⟨7, (⟨#[]⟩ : ByteArray)⟩ : RepV), l) := by rw [rdo, if_neg (ne_true_of_eq_false h10), if_pos h18, if_pos h22]
        have hs25 : St w0 ((Cel b4 #[.int .i64 7, .string (⟨#[]⟩ : ByteArray)] 51) :: (Cel b1 (OpV.cells o) 44) :: (Cel q #[.slice ad l.length c] 105) :: (Sl ad c 142 2 ItemV.cells l) :: L) w23 := ((((hs24.pull 1 rfl).pull 1 rfl).pull 3 rfl).pull 3 rfl)
        have hs26 : St w0 ((Cel q #[.slice ad l.length c] 105) :: (Sl ad c 142 2 ItemV.cells l) :: L) w23 := hs25.drop 2
        exact ⟨ad, c, (by first | rfl | (rw [hr]; done) | (rw [hr]; rfl)), (by first | exact hs26 | (rw [hr]; exact hs26))⟩
      · refine GoC.skip (GoQ.thn (GoC.seq ?_))
        refine Xt (.rd 0 (.rd 1 (.rd 2 (.rd 3 (.rd 4 (.ef 5 .done)))))) ?_
        refine Xk [(0, .gen []), (1, .gen []), (2, .gen [.string o.key]), (3, .gen []), (4, .gen [.string o.value])] [(2, [.cell ⟨b1, 1, none⟩ (.string o.key)]), (4, [.cell ⟨b1, 2, none⟩ (.string o.value)])] [(39, .string o.value), (37, .string o.key), (35, vp q 0), (6, .bool ((rget l o.key).2)), (5, .string ((rget l o.key).1)), (4, vp b4 0), (3, vp b1 0), (0, vp q 0)] (ak (okc (hs21.cell 3 rfl (by kernel_rfl)) ok0) (ak (okc (hs21.cell 3 rfl (by kernel_rfl)) ok0) ak0)) ?_
        refine Xa (f := 71) (args := #[vp q 0, .string o.key, .string o.value]) Tryz.call71 (rset_spec l o.key o.value (by first | assumption | omega) hs21) ?_
        rintro v30 w31 ⟨ad27, c28, rfl, hs29⟩
        refine ⟨Xo, ?_⟩
        refine GoR.done (GoQ.thn (GoC.seq ?_))
        refine Xt (.rd 0 (.ef 1 .done)) ?_
        refine Xk [(0, .gen [])] [] [(41, .agg #[.int .i64 0, .string (⟨#[]⟩ : ByteArray)]), (6, .bool ((rget l o.key).2)), (5, .string ((rget l o.key).1)), (4, vp b4 0), (3, vp b1 0), (0, vp q 0)] ak0 ?_
        refine GoR.store rfl rfl (by kernel_rfl) (b := b4) (off := 0) (v := .agg #[.int .i64 0, .string (⟨#[]⟩ : ByteArray)]) (by kernel_rfl) (by kernel_rfl) (ti := Tryz.t51) (by kernel_rfl) hs29 2 rfl (by kernel_rfl) (by kernel_rfl) (Nat.le_of_ble_eq_true (by kernel_rfl)) (cs' := #[.int .i64 0, .string (⟨#[]⟩ : ByteArray)]) (L' := (Cel q #[.slice ad27 ((rset l o.key o.value).length) c28] 105) :: (Sl ad27 c28 142 2 ItemV.cells (rset l o.key o.value)) :: (Cel b4 #[.int .i64 0, .string (⟨#[]⟩ : ByteArray)] 51) :: (Cel b1 (OpV.cells o) 44) :: L) (by kernel_rfl) rfl ?_
        intro w32 hs33
        refine ⟨Xo, ?_⟩
        refine GoR.done (GoQ.thn (GoC.ret (GoQ.skipCR ?_)))
        refine GoQ.done (.inl rfl) (v := .agg #[.int .i64 0, .string (⟨#[]⟩ : ByteArray)]) (fun a hf => resultsA rfl (by kernel_rfl) (ti := Tryz.t51) (by kernel_rfl) (by kernel_rfl) (vs := #[.int .i64 0, .string (⟨#[]⟩ : ByteArray)]) (by kernel_rfl) (hs33.cells 2 0 rfl (by kernel_rfl)) a hf) ?_
        have hr : rdo l o = ((⟨0, (⟨#[]⟩ : ByteArray)⟩ : RepV), rset l o.key o.value) := by rw [rdo, if_neg (ne_true_of_eq_false h10), if_pos h18, if_neg (ne_true_of_eq_false h22)]
        have hs34 : St w0 ((Cel b4 #[.int .i64 0, .string (⟨#[]⟩ : ByteArray)] 51) :: (Cel b1 (OpV.cells o) 44) :: (Cel q #[.slice ad27 ((rset l o.key o.value).length) c28] 105) :: (Sl ad27 c28 142 2 ItemV.cells (rset l o.key o.value)) :: L) w32 := ((((hs33.pull 1 rfl).pull 1 rfl).pull 3 rfl).pull 3 rfl)
        have hs35 : St w0 ((Cel q #[.slice ad27 ((rset l o.key o.value).length) c28] 105) :: (Sl ad27 c28 142 2 ItemV.cells (rset l o.key o.value)) :: L) w32 := hs34.drop 2
        exact ⟨ad27, c28, (by first | rfl | (rw [hr]; done) | (rw [hr]; rfl)), (by first | exact hs35 | (rw [hr]; exact hs35))⟩
    · have h18' : ¬ ((o.kind : Int) = 2) := ieqF h18
      refine GoC.skip (GoQ.thn (GoC.seq (GoC.seq ?_)))
      refine Xt (.rd 0 (.rd 1 .done)) ?_
      refine Xk [(0, .gen []), (1, .gen [])] [] [(43, .bool (!((rget l o.key).2))), (5, .string ((rget l o.key).1)), (4, vp b4 0), (3, vp b1 0), (0, vp q 0)] ak0 ?_
      refine GoR.done (GoQ.thn ?_)
      refine Xc (t := !((rget l o.key).2)) (fun h36 => ?_) (fun h36 => ?_)
      · have h36n : ((rget l o.key).2) = false := notT h36
        refine GoC.seq ?_
        refine Xt (.rd 0 (.ef 1 .done)) ?_
        refine Xk [(0, .gen [])] [] [(44, .agg #[.int .i64 4, .string (⟨#[]⟩ : ByteArray)]), (5, .string ((rget l o.key).1)), (4, vp b4 0), (3, vp b1 0), (0, vp q 0)] ak0 ?_
        refine GoR.store rfl rfl (by kernel_rfl) (b := b4) (off := 0) (v := .agg #[.int .i64 4, .string (⟨#[]⟩ : ByteArray)]) (by kernel_rfl) (by kernel_rfl) (ti := Tryz.t51) (by kernel_rfl) hs15 2 rfl (by kernel_rfl) (by kernel_rfl) (Nat.le_of_ble_eq_true (by kernel_rfl)) (cs' := #[.int .i64 4, .string (⟨#[]⟩ : ByteArray)]) (L' := (Cel q #[.slice ad l.length c] 105) :: (Sl ad c 142 2 ItemV.cells l) :: (Cel b4 #[.int .i64 4, .string (⟨#[]⟩ : ByteArray)] 51) :: (Cel b1 (OpV.cells o) 44) :: L) (by kernel_rfl) rfl ?_
        intro w37 hs38
        refine ⟨Xo, ?_⟩
        refine GoR.done (GoQ.thn (GoC.ret (GoQ.skipCR ?_)))
        refine GoQ.done (.inl rfl) (v := .agg #[.int .i64 4, .string (⟨#[]⟩ : ByteArray)]) (fun a hf => resultsA rfl (by kernel_rfl) (ti := Tryz.t51) (by kernel_rfl) (by kernel_rfl) (vs := #[.int .i64 4, .string (⟨#[]⟩ : ByteArray)]) (by kernel_rfl) (hs38.cells 2 0 rfl (by kernel_rfl)) a hf) ?_
        have hr : rdo l o = ((⟨4, (⟨#[]⟩ : ByteArray)⟩ : RepV), l) := by rw [rdo, if_neg (ne_true_of_eq_false h10), if_neg (ne_true_of_eq_false h18), if_pos h36]
        have hs39 : St w0 ((Cel b4 #[.int .i64 4, .string (⟨#[]⟩ : ByteArray)] 51) :: (Cel b1 (OpV.cells o) 44) :: (Cel q #[.slice ad l.length c] 105) :: (Sl ad c 142 2 ItemV.cells l) :: L) w37 := ((((hs38.pull 1 rfl).pull 1 rfl).pull 3 rfl).pull 3 rfl)
        have hs40 : St w0 ((Cel q #[.slice ad l.length c] 105) :: (Sl ad c 142 2 ItemV.cells l) :: L) w37 := hs39.drop 2
        exact ⟨ad, c, (by first | rfl | (rw [hr]; done) | (rw [hr]; rfl)), (by first | exact hs40 | (rw [hr]; exact hs40))⟩
      · have h36n : ((rget l o.key).2) = true := notF h36
        have hlt := fis_lt ((rget_snd l o.key).symm.trans h36n)
        refine GoC.skip (GoQ.thn (GoC.seq (GoC.seq ?_)))
        refine Xt (.rd 0 (.rd 1 .done)) ?_
        refine Xk [(0, .gen []), (1, .gen [.int .u8 o.kind])] [(1, [.cell ⟨b1, 0, none⟩ (.int .u8 o.kind)])] [(46, .int .u8 o.kind), (5, .string ((rget l o.key).1)), (4, vp b4 0), (3, vp b1 0), (0, vp q 0)] (ak (okc (hs15.cell 3 rfl (by kernel_rfl)) ok0) ak0) ?_
        refine GoR.done (GoQ.thn (GoC.block (GoC.seq ?_)))
        refine Xt (.rd 0 (.rd 1 .done)) ?_
        refine Xk [(0, .gen []), (1, .gen [])] [] [(47, .bool ((o.kind : Int) == 3)), (46, .int .u8 o.kind), (5, .string ((rget l o.key).1)), (4, vp b4 0), (3, vp b1 0), (0, vp q 0)] ak0 ?_
        refine GoR.done (GoQ.thn ?_)
        refine Xc (t := (o.kind : Int) == 3) (fun h41 => ?_) (fun h41 => ?_)
        · have h41' : (o.kind : Int) = 3 := ieqT h41
          refine GoC.seq ?_
          refine Xt (.rd 0 (.rd 1 (.rd 2 (.ef 3 (.rd 4 (.rd 5 (.rd 6 (.rd 7 (.rd 8 .done))))))))) ?_
          refine Xk [(0, .gen []), (1, .gen []), (2, .gen [.string o.key])] [(2, [.cell ⟨b1, 1, none⟩ (.string o.key)])] [(52, .string o.key), (50, vp q 0), (5, .string ((rget l o.key).1)), (4, vp b4 0), (0, vp q 0)] (ak (okc (hs15.cell 3 rfl (by kernel_rfl)) ok0) ak0) ?_
          refine Xa (f := 72) (args := #[vp q 0, .string o.key]) Tryz.call72 (find_spec l o.key (by first | assumption | omega) hs15) ?_
          rintro v44 w45 ⟨rfl, hfl42, hs43⟩
          refine ⟨Xo, ?_⟩
          refine Xk [(4, .gen []), (5, .gen []), (6, .gen []), (7, .gen []), (8, .gen [])] [] [(7, .int .i64 (fnd l o.key : Nat)), (5, .string ((rget l o.key).1)), (4, vp b4 0), (0, vp q 0)] ak0 ?_
          refine GoR.done (GoQ.thn (GoC.seq ?_))
          refine Xt (.rd 0 .done) ?_
          refine Xk [(0, .gen [])] [] [(9, .slice none 0 0), (7, .int .i64 (fnd l o.key : Nat)), (5, .string ((rget l o.key).1)), (4, vp b4 0), (0, vp q 0)] ak0 ?_
          refine GoR.done (GoQ.thn ?_)
          refine GoC.regD [0, 0, 0, 4, 12, 28, 0, 124, 254, 0, 512, 1536, 3584, 0, 8192, 32256, 65534, 131071, 262143, 524287] (.rd 0 (.rd 1 (.rd 2 (.rd 3 (.rd 4 (.rd 5 (.rd 6 (.rd 7 (.rd 9 (.rd 10 (.rd 11 (.rd 12 (.rd 13 (.rd 14 (.rd 15 (.ef 8 (.ef 16 (.rd 17 (.rd 18 (.ef 19 .done)))))))))))))))))))) (by kernel_rfl) (by kernel_rfl) noPan_body (by kernel_rfl) hs43 ?_
          intro w46 hs47 hw48
          have hcap49 := Sl.cap (hs47.at_ 1 rfl)
          have hcap50 := Sl.cap (hs47.at_ 1 rfl)
          refine Xk [(0, .gen []), (1, .gen []), (2, .gen []), (3, .gen []), (4, .gen []), (5, .gen [.slice ad l.length c]), (6, .gen []), (7, .as_ (.slice ad (((l).take (fnd l o.key)).length) c) (.sub 0 (fnd l o.key))), (9, .gen []), (10, .gen []), (11, .gen []), (12, .gen [.slice ad l.length c]), (13, .gen []), (14, .as_ (.int .i64 ((fnd l o.key : Nat) + 1)) (.gen [])), (15, .as_ (.slice (subAd ad c ((fnd l o.key) + 1) 2) (((l).drop ((fnd l o.key) + 1)).length) (c - ((fnd l o.key) + 1))) (.sub ((fnd l o.key) + 1) l.length))] [(5, [.cell ⟨q, 0, none⟩ (.slice ad l.length c)]), (7, [.prop (((fnd l o.key : Nat) : Int) = (((fnd l o.key) : Nat) : Int)), .prop (((none : Option Operand) = none → (0 : Nat) = 0) ∧ (some (Operand.tmp 62) = none → ((fnd l o.key) : Nat) = l.length) ∧ (0 : Nat) ≤ (fnd l o.key) ∧ ((fnd l o.key) : Nat) ≤ c), .prop (Value.slice (if c = 0 then ad else (ad : Option Addr).map (fun a => a.add (0 * 2))) ((fnd l o.key) - 0) (c - 0) = Value.slice ad (((l).take (fnd l o.key)).length) c)]), (12, [.cell ⟨q, 0, none⟩ (.slice ad l.length c)]), (14, [.prop (Value.int .i64 (IntKind.i64.wrap ((fnd l o.key : Nat) + 1)) = Value.int .i64 ((fnd l o.key : Nat) + 1))]), (15, [.prop (((fnd l o.key : Nat) + 1 : Int) = (((fnd l o.key) + 1 : Nat) : Int)), .prop ((some (Operand.tmp 70) = none → ((fnd l o.key) + 1 : Nat) = 0) ∧ ((none : Option Operand) = none → (l.length : Nat) = l.length) ∧ ((fnd l o.key) + 1 : Nat) ≤ l.length ∧ (l.length : Nat) ≤ c), .prop (Value.slice (if c = ((fnd l o.key) + 1) then ad else (ad : Option Addr).map (fun a => a.add (((fnd l o.key) + 1) * 2))) (l.length - ((fnd l o.key) + 1)) (c - ((fnd l o.key) + 1)) = Value.slice (subAd ad c ((fnd l o.key) + 1) 2) (((l).drop ((fnd l o.key) + 1)).length) (c - ((fnd l o.key) + 1)))])] [(71, .slice (subAd ad c ((fnd l o.key) + 1) 2) (((l).drop ((fnd l o.key) + 1)).length) (c - ((fnd l o.key) + 1))), (63, .slice ad (((l).take (fnd l o.key)).length) c), (57, .slice none 0 0), (56, vp q 0), (5, .string ((rget l o.key).1)), (4, vp b4 0)] (ak (okc (hs47.cell 0 rfl (by kernel_rfl)) ok0) (ak (okp (by omega) (okp ⟨(by first | (intro _; rfl) | (intro hc; cases hc)), (by first | (intro _; rfl) | (intro hc; cases hc)), (by omega), (by omega)⟩ (okp (subSl0 (by simp only [List.length_take, List.length_drop] <;> omega)) ok0))) (ak (okc (hs47.cell 0 rfl (by kernel_rfl)) ok0) (ak (okp (i64ok (by omega) (by omega)) ok0) (ak (okp (by omega) (okp ⟨(by first | (intro _; rfl) | (intro hc; cases hc)), (by first | (intro _; rfl) | (intro hc; cases hc)), (by omega), (by omega)⟩ (okp (subSl (by simp only [List.length_take, List.length_drop] <;> omega)) ok0))) ak0))))) ?_
          have hs53 : St w0 ((Sl none 0 142 2 ItemV.cells ([] : List ItemV)) :: (Cel q #[.slice ad l.length c] 105) :: (Sl ad c 142 2 ItemV.cells l) :: (Cel b4 #[.int .i64 0, .string (⟨#[]⟩ : ByteArray)] 51) :: (Cel b1 (OpV.cells o) 44) :: L) w46 := St.slNil hs47 142 2 ItemV.cells
          refine GoR.append rfl (by kernel_rfl) itemsOK itemF (ad := none) (c := 0) (xs := ([] : List ItemV)) (ys := (l).take (fnd l o.key)) (adx := ad) (cx := c) dItem (by kernel_rfl) hs53 (RowsAt.takeL (hs53.rows 2 rfl (itemF).size dItem) _ (by omega)) (hs53.slNone 2 rfl) (by simp only [List.length_append, List.length_take, List.length_drop, List.length_cons, List.length_nil]; omega) (by simp only [List.length_append, List.length_take, List.length_drop, List.length_cons, List.length_nil]; omega) ?_
          intro ad54 c55 w51 hs52
          refine ⟨(opl (n := [.prop (((fnd l o.key : Nat) + 1 : Int) = (((fnd l o.key) + 1 : Nat) : Int)), .prop ((some (Operand.tmp 70) = none → ((fnd l o.key) + 1 : Nat) = 0) ∧ ((none : Option Operand) = none → (l.length : Nat) = l.length) ∧ ((fnd l o.key) + 1 : Nat) ≤ l.length ∧ (l.length : Nat) ≤ c), .prop (Value.slice (if c = ((fnd l o.key) + 1) then ad else (ad : Option Addr).map (fun a => a.add (((fnd l o.key) + 1) * 2))) (l.length - ((fnd l o.key) + 1)) (c - ((fnd l o.key) + 1)) = Value.slice (subAd ad c ((fnd l o.key) + 1) 2) (((l).drop ((fnd l o.key) + 1)).length) (c - ((fnd l o.key) + 1))), .prop (Value.int .i64 (IntKind.i64.wrap ((fnd l o.key : Nat) + 1)) = Value.int .i64 ((fnd l o.key : Nat) + 1)), .cell ⟨q, 0, none⟩ (.slice ad l.length c)]) (by kernel_rfl) (okp (by omega) (okp ⟨(by first | (intro _; rfl) | (intro hc; cases hc)), (by first | (intro _; rfl) | (intro hc; cases hc)), (by omega), (by omega)⟩ (okp (subSl (by simp only [List.length_take, List.length_drop] <;> omega)) (okp (i64ok (by omega) (by omega)) (okc (hs52.cell 1 rfl (by kernel_rfl)) ok0)))))), ?_⟩
          refine GoR.append rfl (by kernel_rfl) itemsOK itemF (ad := ad54) (c := c55) (xs := (l).take (fnd l o.key)) (ys := (l).drop ((fnd l o.key) + 1)) (adx := subAd ad c ((fnd l o.key) + 1) 2) (cx := (c - ((fnd l o.key) + 1))) dItem (by kernel_rfl) hs52 (RowsAt.dropL (hs52.rows 2 rfl (itemF).size dItem) (by omega) (by omega)) (subAd_none (hs52.slNone 2 rfl)) (by simp only [List.length_append, List.length_take, List.length_drop, List.length_cons, List.length_nil]; omega) (by simp only [List.length_append, List.length_take, List.length_drop, List.length_cons, List.length_nil]; omega) ?_
          intro ad58 c59 w56 hs57
          refine ⟨Xo, ?_⟩
          refine Xk [(17, .gen []), (18, .gen [])] [] [(74, vp q 0), (72, .slice ad58 ((((l).take (fnd l o.key)) ++ ((l).drop ((fnd l o.key) + 1))).length) c59), (5, .string ((rget l o.key).1)), (4, vp b4 0)] ak0 ?_
          refine GoR.store rfl rfl (by kernel_rfl) (b := q) (off := 0) (v := .slice ad58 ((((l).take (fnd l o.key)) ++ ((l).drop ((fnd l o.key) + 1))).length) c59) (by kernel_rfl) (by kernel_rfl) (ti := Tryz.t103) (by kernel_rfl) hs57 1 rfl (by kernel_rfl) (by kernel_rfl) (Nat.le_of_ble_eq_true (by kernel_rfl)) (cs' := #[.slice ad58 ((((l).take (fnd l o.key)) ++ ((l).drop ((fnd l o.key) + 1))).length) c59]) (L' := (Sl ad58 c59 142 2 ItemV.cells (((l).take (fnd l o.key)) ++ ((l).drop ((fnd l o.key) + 1)))) :: (Cel q #[.slice ad58 ((((l).take (fnd l o.key)) ++ ((l).drop ((fnd l o.key) + 1))).length) c59] 105) :: (Sl ad c 142 2 ItemV.cells l) :: (Cel b4 #[.int .i64 0, .string (⟨#[]⟩ : ByteArray)] 51) :: (Cel b1 (OpV.cells o) 44) :: L) (by kernel_rfl) rfl ?_
          intro w60 hs61
          refine ⟨Xo, ?_⟩
          refine GoR.done (GoQ.blkN (GoQ.thn (GoC.seq ?_)))
          refine Xt (.rd 0 (.rd 1 (.ef 2 .done))) ?_
          refine Xk [(0, .gen []), (1, .gen [])] [] [(97, .agg #[.int .i64 0, .string ((rget l o.key).1)]), (4, vp b4 0)] ak0 ?_
          refine GoR.store rfl rfl (by kernel_rfl) (b := b4) (off := 0) (v := .agg #[.int .i64 0, .string ((rget l o.key).1)]) (by kernel_rfl) (by kernel_rfl) (ti := Tryz.t51) (by kernel_rfl) hs61 3 rfl (by kernel_rfl) (by kernel_rfl) (Nat.le_of_ble_eq_true (by kernel_rfl)) (cs' := #[.int .i64 0, .string ((rget l o.key).1)]) (L' := (Sl ad58 c59 142 2 ItemV.cells (((l).take (fnd l o.key)) ++ ((l).drop ((fnd l o.key) + 1)))) :: (Cel q #[.slice ad58 ((((l).take (fnd l o.key)) ++ ((l).drop ((fnd l o.key) + 1))).length) c59] 105) :: (Sl ad c 142 2 ItemV.cells l) :: (Cel b4 #[.int .i64 0, .string ((rget l o.key).1)] 51) :: (Cel b1 (OpV.cells o) 44) :: L) (by kernel_rfl) rfl ?_
          intro w62 hs63
          refine ⟨Xo, ?_⟩
          refine GoR.done (GoQ.thn (GoC.ret ?_))
          refine GoQ.done (.inl rfl) (v := .agg #[.int .i64 0, .string ((rget l o.key).1)]) (fun a hf => resultsA rfl (by kernel_rfl) (ti := Tryz.t51) (by kernel_rfl) (by kernel_rfl) (vs := #[.int .i64 0, .string ((rget l o.key).1)]) (by kernel_rfl) (hs63.cells 3 0 rfl (by kernel_rfl)) a hf) ?_
          have hr : rdo l o = ((⟨0, (rget l o.key).1⟩ : RepV), ((l).take (fnd l o.key)) ++ ((l).drop ((fnd l o.key) + 1))) := by rw [rdo, if_neg (ne_true_of_eq_false h10), if_neg (ne_true_of_eq_false h18), if_neg (ne_true_of_eq_false h36), if_pos h41]
          have hs64 : St w0 ((Sl ad c 142 2 ItemV.cells l) :: (Cel b4 #[.int .i64 0, .string ((rget l o.key).1)] 51) :: (Cel b1 (OpV.cells o) 44) :: (Cel q #[.slice ad58 ((((l).take (fnd l o.key)) ++ ((l).drop ((fnd l o.key) + 1))).length) c59] 105) :: (Sl ad58 c59 142 2 ItemV.cells (((l).take (fnd l o.key)) ++ ((l).drop ((fnd l o.key) + 1)))) :: L) w62 := (((((hs63.pull 0 rfl).pull 1 rfl).pull 4 rfl).pull 4 rfl).pull 4 rfl)
          have hs65 : St w0 ((Cel q #[.slice ad58 ((((l).take (fnd l o.key)) ++ ((l).drop ((fnd l o.key) + 1))).length) c59] 105) :: (Sl ad58 c59 142 2 ItemV.cells (((l).take (fnd l o.key)) ++ ((l).drop ((fnd l o.key) + 1)))) :: L) w62 := hs64.drop 3
          exact ⟨ad58, c59, (by first | rfl | (rw [hr]; done) | (rw [hr]; rfl)), (by first | exact hs65 | (rw [hr]; exact hs65))⟩
        · have h41' : ¬ ((o.kind : Int) = 3) := ieqF h41
          refine GoC.seq ?_
          refine Xt (.rd 0 (.rd 1 .done)) ?_
          refine Xk [(0, .gen []), (1, .gen [])] [] [(75, .bool ((o.kind : Int) == 4)), (46, .int .u8 o.kind), (5, .string ((rget l o.key).1)), (4, vp b4 0), (3, vp b1 0), (0, vp q 0)] ak0 ?_
          refine GoR.done (GoQ.thn ?_)
          refine Xc (t := (o.kind : Int) == 4) (fun h66 => ?_) (fun h66 => ?_)
          · have h66' : (o.kind : Int) = 4 := ieqT h66
            refine GoC.seq (GoC.seq ?_)
            refine Xt (.rd 0 (.rd 1 (.rd 2 (.rd 3 .done)))) ?_
            refine Xk [(0, .gen []), (1, .gen []), (2, .gen [.string o.old]), (3, .as_ (.bool (!(decide (((rget l o.key).1) = o.old)))) (.gen []))] [(2, [.cell ⟨b1, 3, none⟩ (.string o.old)]), (3, [.prop (Value.bool (!(((rget l o.key).1).toList == o.old.toList)) = Value.bool (!(decide (((rget l o.key).1) = o.old))))])] [(80, .bool (!(decide (((rget l o.key).1) = o.old)))), (5, .string ((rget l o.key).1)), (4, vp b4 0), (3, vp b1 0), (0, vp q 0)] (ak (okc (hs15.cell 3 rfl (by kernel_rfl)) ok0) (ak (okp (sne _ _) ok0) ak0)) ?_
            refine GoR.done (GoQ.thn ?_)
            refine Xc (t := !(decide (((rget l o.key).1) = o.old))) (fun h67 => ?_) (fun h67 => ?_)
            · have h67n : (decide (((rget l o.key).1) = o.old)) = false := notT h67
              have h67n' : ¬ (((rget l o.key).1) = o.old) := of_decide_eq_false h67n
              refine GoC.seq ?_
              refine Xt (.rd 0 (.rd 1 (.ef 2 .done))) ?_
              refine Xk [(0, .gen []), (1, .gen [])] [] [(82, .agg #[.int .i64 15, .string ((rget l o.key).1)]), (5, .string ((rget l o.key).1)), (4, vp b4 0), (3, vp b1 0), (0, vp q 0)] ak0 ?_
              refine GoR.store rfl rfl (by kernel_rfl) (b := b4) (off := 0) (v := .agg #[.int .i64 15, .string ((rget l o.key).1)]) (by kernel_rfl) (by kernel_rfl) (ti := Tryz.t51) (by kernel_rfl) hs15 2 rfl (by kernel_rfl) (by kernel_rfl) (Nat.le_of_ble_eq_true (by kernel_rfl)) (cs' := #[.int .i64 15, .string ((rget l o.key).1)]) (L' := (Cel q #[.slice ad l.length c] 105) :: (Sl ad c 142 2 ItemV.cells l) :: (Cel b4 #[.int .i64 15, .string ((rget l o.key).1)] 51) :: (Cel b1 (OpV.cells o) 44) :: L) (by kernel_rfl) rfl ?_
              intro w68 hs69
              refine ⟨Xo, ?_⟩
              refine GoR.done (GoQ.thn (GoC.ret (GoQ.skipCR (GoQ.blkR (GoQ.skipCR ?_)))))
              refine GoQ.done (.inl rfl) (v := .agg #[.int .i64 15, .string ((rget l o.key).1)]) (fun a hf => resultsA rfl (by kernel_rfl) (ti := Tryz.t51) (by kernel_rfl) (by kernel_rfl) (vs := #[.int .i64 15, .string ((rget l o.key).1)]) (by kernel_rfl) (hs69.cells 2 0 rfl (by kernel_rfl)) a hf) ?_
              have hr : rdo l o = ((⟨15, (rget l o.key).1⟩ : RepV), l) := by rw [rdo, if_neg (ne_true_of_eq_false h10), if_neg (ne_true_of_eq_false h18), if_neg (ne_true_of_eq_false h36), if_neg (ne_true_of_eq_false h41), if_pos h66, if_pos h67]
              have hs70 : St w0 ((Cel b4 #[.int .i64 15, .string ((rget l o.key).1)] 51) :: (Cel b1 (OpV.cells o) 44) :: (Cel q #[.slice ad l.length c] 105) :: (Sl ad c 142 2 ItemV.cells l) :: L) w68 := ((((hs69.pull 1 rfl).pull 1 rfl).pull 3 rfl).pull 3 rfl)
              have hs71 : St w0 ((Cel q #[.slice ad l.length c] 105) :: (Sl ad c 142 2 ItemV.cells l) :: L) w68 := hs70.drop 2
              exact ⟨ad, c, (by first | rfl | (rw [hr]; done) | (rw [hr]; rfl)), (by first | exact hs71 | (rw [hr]; exact hs71))⟩
            · have h67n : (decide (((rget l o.key).1) = o.old)) = true := notF h67
              have h67n' : ((rget l o.key).1) = o.old := of_decide_eq_true h67n
              refine GoC.skip (GoQ.thn (GoC.seq ?_))
              refine Xt (.rd 0 (.rd 1 (.rd 2 (.rd 3 (.rd 4 (.ef 5 .done)))))) ?_
              refine Xk [(0, .gen []), (1, .gen []), (2, .gen [.string o.key]), (3, .gen []), (4, .gen [.string o.value])] [(2, [.cell ⟨b1, 1, none⟩ (.string o.key)]), (4, [.cell ⟨b1, 2, none⟩ (.string o.value)])] [(87, .string o.value), (85, .string o.key), (83, vp q 0), (5, .string ((rget l o.key).1)), (4, vp b4 0)] (ak (okc (hs15.cell 3 rfl (by kernel_rfl)) ok0) (ak (okc (hs15.cell 3 rfl (by kernel_rfl)) ok0) ak0)) ?_
              refine Xa (f := 71) (args := #[vp q 0, .string o.key, .string o.value]) Tryz.call71 (rset_spec l o.key o.value (by first | assumption | omega) hs15) ?_
              rintro v75 w76 ⟨ad72, c73, rfl, hs74⟩
              refine ⟨Xo, ?_⟩
              refine GoR.done (GoQ.thn (GoC.seq ?_))
              refine Xt (.rd 0 (.ef 1 .done)) ?_
              refine Xk [(0, .gen [])] [] [(89, .agg #[.int .i64 0, .string (⟨#[]⟩ : ByteArray)]), (5, .string ((rget l o.key).1)), (4, vp b4 0)] ak0 ?_
              refine GoR.store rfl rfl (by kernel_rfl) (b := b4) (off := 0) (v := .agg #[.int .i64 0, .string (⟨#[]⟩ : ByteArray)]) (by kernel_rfl) (by kernel_rfl) (ti := Tryz.t51) (by kernel_rfl) hs74 2 rfl (by kernel_rfl) (by kernel_rfl) (Nat.le_of_ble_eq_true (by kernel_rfl)) (cs' := #[.int .i64 0, .string (⟨#[]⟩ : ByteArray)]) (L' := (Cel q #[.slice ad72 ((rset l o.key o.value).length) c73] 105) :: (Sl ad72 c73 142 2 ItemV.cells (rset l o.key o.value)) :: (Cel b4 #[.int .i64 0, .string (⟨#[]⟩ : ByteArray)] 51) :: (Cel b1 (OpV.cells o) 44) :: L) (by kernel_rfl) rfl ?_
              intro w77 hs78
              refine ⟨Xo, ?_⟩
              refine GoR.done (GoQ.thn (GoC.ret (GoQ.blkR (GoQ.skipCR ?_))))
              refine GoQ.done (.inl rfl) (v := .agg #[.int .i64 0, .string (⟨#[]⟩ : ByteArray)]) (fun a hf => resultsA rfl (by kernel_rfl) (ti := Tryz.t51) (by kernel_rfl) (by kernel_rfl) (vs := #[.int .i64 0, .string (⟨#[]⟩ : ByteArray)]) (by kernel_rfl) (hs78.cells 2 0 rfl (by kernel_rfl)) a hf) ?_
              have hr : rdo l o = ((⟨0, (⟨#[]⟩ : ByteArray)⟩ : RepV), rset l o.key o.value) := by rw [rdo, if_neg (ne_true_of_eq_false h10), if_neg (ne_true_of_eq_false h18), if_neg (ne_true_of_eq_false h36), if_neg (ne_true_of_eq_false h41), if_pos h66, if_neg (ne_true_of_eq_false h67)]
              have hs79 : St w0 ((Cel b4 #[.int .i64 0, .string (⟨#[]⟩ : ByteArray)] 51) :: (Cel b1 (OpV.cells o) 44) :: (Cel q #[.slice ad72 ((rset l o.key o.value).length) c73] 105) :: (Sl ad72 c73 142 2 ItemV.cells (rset l o.key o.value)) :: L) w77 := ((((hs78.pull 1 rfl).pull 1 rfl).pull 3 rfl).pull 3 rfl)
              have hs80 : St w0 ((Cel q #[.slice ad72 ((rset l o.key o.value).length) c73] 105) :: (Sl ad72 c73 142 2 ItemV.cells (rset l o.key o.value)) :: L) w77 := hs79.drop 2
              exact ⟨ad72, c73, (by first | rfl | (rw [hr]; done) | (rw [hr]; rfl)), (by first | exact hs80 | (rw [hr]; exact hs80))⟩
          · have h66' : ¬ ((o.kind : Int) = 4) := ieqF h66
            refine GoC.seq ?_
            refine Xt (.rd 0 (.rd 1 .done)) ?_
            refine Xk [(0, .gen []), (1, .gen [])] [] [(90, .bool ((o.kind : Int) == 5)), (5, .string ((rget l o.key).1)), (4, vp b4 0), (3, vp b1 0), (0, vp q 0)] ak0 ?_
            refine GoR.done (GoQ.thn ?_)
            refine Xc (t := (o.kind : Int) == 5) (fun h81 => ?_) (fun h81 => ?_)
            · have h81' : (o.kind : Int) = 5 := ieqT h81
              refine GoC.seq ?_
              refine Xt (.rd 0 (.rd 1 (.rd 2 (.ef 3 (.ef 4 .done))))) ?_
              refine Xk [(0, .gen []), (1, .agg (OpV.cells o)), (2, .gen [])] [(1, [.prop (Array.size (OpV.cells o) = 6), .cells ⟨b1, 0, none⟩ (OpV.cells o)])] [(94, .string ((rget l o.key).1)), (93, .agg (OpV.cells o)), (92, vp q 0), (5, .string ((rget l o.key).1)), (4, vp b4 0)] (ak (okp (by kernel_rfl) (oka (hs15.cells 3 0 rfl (by kernel_rfl)) ok0)) ak0) ?_
              refine Xa (f := 73) (args := #[vp q 0, .agg (OpV.cells o), .string ((rget l o.key).1)]) Tryz.call73 (rmove_spec l o ((rget l o.key).1) (by first | assumption | omega) hsv ha (rget_size hsv) hs15) ?_
              rintro v85 w86 ⟨ad82, c83, rfl, hs84⟩
              refine ⟨Xo, ?_⟩
              refine GoR.store rfl rfl (by kernel_rfl) (b := b4) (off := 0) (v := .agg (RepV.cells ((rmove l o ((rget l o.key).1)).1))) (by kernel_rfl) (by kernel_rfl) (ti := Tryz.t51) (by kernel_rfl) hs84 2 rfl (by kernel_rfl) (by kernel_rfl) (Nat.le_of_ble_eq_true (by kernel_rfl)) (cs' := RepV.cells ((rmove l o ((rget l o.key).1)).1)) (L' := (Cel q #[.slice ad82 (((rmove l o ((rget l o.key).1)).2).length) c83] 105) :: (Sl ad82 c83 142 2 ItemV.cells ((rmove l o ((rget l o.key).1)).2)) :: (Cel b4 (RepV.cells ((rmove l o ((rget l o.key).1)).1)) 51) :: (Cel b1 (OpV.cells o) 44) :: L) (by kernel_rfl) rfl ?_
              intro w87 hs88
              refine ⟨Xo, ?_⟩
              refine GoR.done (GoQ.thn (GoC.ret (GoQ.blkR (GoQ.skipCR ?_))))
              refine GoQ.done (.inl rfl) (v := .agg (RepV.cells ((rmove l o ((rget l o.key).1)).1))) (fun a hf => resultsA rfl (by kernel_rfl) (ti := Tryz.t51) (by kernel_rfl) (by kernel_rfl) (vs := (RepV.cells ((rmove l o ((rget l o.key).1)).1))) (by kernel_rfl) (hs88.cells 2 0 rfl (by kernel_rfl)) a hf) ?_
              have hr : rdo l o = ((rmove l o ((rget l o.key).1)).1, (rmove l o ((rget l o.key).1)).2) := by rw [rdo, if_neg (ne_true_of_eq_false h10), if_neg (ne_true_of_eq_false h18), if_neg (ne_true_of_eq_false h36), if_neg (ne_true_of_eq_false h41), if_neg (ne_true_of_eq_false h66), if_pos h81]
              have hs89 : St w0 ((Cel b4 (RepV.cells ((rmove l o ((rget l o.key).1)).1)) 51) :: (Cel b1 (OpV.cells o) 44) :: (Cel q #[.slice ad82 (((rmove l o ((rget l o.key).1)).2).length) c83] 105) :: (Sl ad82 c83 142 2 ItemV.cells ((rmove l o ((rget l o.key).1)).2)) :: L) w87 := ((((hs88.pull 1 rfl).pull 1 rfl).pull 3 rfl).pull 3 rfl)
              have hs90 : St w0 ((Cel q #[.slice ad82 (((rmove l o ((rget l o.key).1)).2).length) c83] 105) :: (Sl ad82 c83 142 2 ItemV.cells ((rmove l o ((rget l o.key).1)).2)) :: L) w87 := hs89.drop 2
              exact ⟨ad82, c83, (by first | rfl | (rw [hr]; done) | (rw [hr]; rfl)), (by first | exact hs90 | (rw [hr]; exact hs90))⟩
            · have h81' : ¬ ((o.kind : Int) = 5) := ieqF h81
              refine GoC.skip (GoQ.blkN (GoQ.thn (GoC.seq ?_)))
              refine Xt (.rd 0 (.rd 1 (.ef 2 .done))) ?_
              refine Xk [(0, .gen []), (1, .gen [])] [] [(97, .agg #[.int .i64 0, .string ((rget l o.key).1)]), (4, vp b4 0)] ak0 ?_
              refine GoR.store rfl rfl (by kernel_rfl) (b := b4) (off := 0) (v := .agg #[.int .i64 0, .string ((rget l o.key).1)]) (by kernel_rfl) (by kernel_rfl) (ti := Tryz.t51) (by kernel_rfl) hs15 2 rfl (by kernel_rfl) (by kernel_rfl) (Nat.le_of_ble_eq_true (by kernel_rfl)) (cs' := #[.int .i64 0, .string ((rget l o.key).1)]) (L' := (Cel q #[.slice ad l.length c] 105) :: (Sl ad c 142 2 ItemV.cells l) :: (Cel b4 #[.int .i64 0, .string ((rget l o.key).1)] 51) :: (Cel b1 (OpV.cells o) 44) :: L) (by kernel_rfl) rfl ?_
              intro w91 hs92
              refine ⟨Xo, ?_⟩
              refine GoR.done (GoQ.thn (GoC.ret ?_))
              refine GoQ.done (.inl rfl) (v := .agg #[.int .i64 0, .string ((rget l o.key).1)]) (fun a hf => resultsA rfl (by kernel_rfl) (ti := Tryz.t51) (by kernel_rfl) (by kernel_rfl) (vs := #[.int .i64 0, .string ((rget l o.key).1)]) (by kernel_rfl) (hs92.cells 2 0 rfl (by kernel_rfl)) a hf) ?_
              have hr : rdo l o = ((⟨0, (rget l o.key).1⟩ : RepV), l) := by rw [rdo, if_neg (ne_true_of_eq_false h10), if_neg (ne_true_of_eq_false h18), if_neg (ne_true_of_eq_false h36), if_neg (ne_true_of_eq_false h41), if_neg (ne_true_of_eq_false h66), if_neg (ne_true_of_eq_false h81)]
              have hs93 : St w0 ((Cel b4 #[.int .i64 0, .string ((rget l o.key).1)] 51) :: (Cel b1 (OpV.cells o) 44) :: (Cel q #[.slice ad l.length c] 105) :: (Sl ad c 142 2 ItemV.cells l) :: L) w91 := ((((hs92.pull 1 rfl).pull 1 rfl).pull 3 rfl).pull 3 rfl)
              have hs94 : St w0 ((Cel q #[.slice ad l.length c] 105) :: (Sl ad c 142 2 ItemV.cells l) :: L) w91 := hs93.drop 2
              exact ⟨ad, c, (by first | rfl | (rw [hr]; done) | (rw [hr]; rfl)), (by first | exact hs94 | (rw [hr]; exact hs94))⟩
theorem rkey_eq (s : ByteArray) : rkey s = keyed s := by
  rw [Bool.eq_iff_iff, keyed_iff]
  unfold rkey
  simp only [Bool.and_eq_true, decide_eq_true_eq]
  omega
theorem rvalue_eq (s : ByteArray) : rvalue s = valued s := by
  rw [Bool.eq_iff_iff, valued_iff]
  unfold rvalue
  simp only [decide_eq_true_eq]
  omega
end Go.Proofs.YtbmmknchcdhefaaGreatDoor
