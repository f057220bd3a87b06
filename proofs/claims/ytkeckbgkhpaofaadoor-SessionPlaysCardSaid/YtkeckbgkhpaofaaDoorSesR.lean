/-
  The document's table: Of, Do; same.
-/
import Derived.Test.YtkeckbgkhpaofaaDoorProg
import Derived.Test.YtkeckbgkhpaofaaDoorBakP
import Derived.Test.YtkeckbgkhpaofaaDoorRefB
import Derived.Test.YtkeckbgkhpaofaaDoorSxR
namespace Go.Proofs.YtkeckbgkhpaofaaDoor
open Go.RowKit Go.Sx
set_option linter.unusedVariables false
set_option linter.unusedSimpArgs false
set_option linter.unnecessarySimpa false
set_option maxRecDepth 100000
theorem bad_reply {x : LastV} (h0 : ((x.time : Int) == 0) = true) : badLast x = !(decide (x.reply = (⟨0, (⟨#[]⟩ : ByteArray)⟩ : RepV))) := by
  unfold badLast
  rw [if_pos h0]
  obtain ⟨t, r⟩ := x
  have ht : t = 0 := by simpa using h0
  subst ht
  congr 1
  apply decide_eq_decide.2
  exact ⟨fun h => by injection h, fun h => by rw [show r = _ from h]⟩
theorem bad_time {x : LastV} (h0 : ((x.time : Int) == 0) = false) : badLast x = false := by
  unfold badLast
  rw [if_neg (ne_true_of_eq_false h0)]
theorem take_put {l : List LastV} {k : Nat} (hk : k < l.length) (h8 : l.length = 8) : (l.take k ++ List.replicate (8 - k) dLast).set k (l.getD k dLast) = l.take (k + 1) ++ List.replicate (8 - (k + 1)) dLast := by
  rw [take_succ_getD (d := dLast) hk, List.set_append, if_neg (by rw [List.length_take]; omega), List.append_assoc]
  congr 1
  have h1 : k - (l.take k).length = 0 := by rw [List.length_take]; omega
  have h2 : 8 - k = (8 - (k + 1)) + 1 := by omega
  rw [h1, h2, List.replicate_succ]
  rfl
theorem eq_of_getD {l b : List LastV} (h : l.length = b.length) (hp : ∀ j, j < l.length → l.getD j dLast = b.getD j dLast) : l = b := by
  apply List.ext_getElem h
  intro j h1 h2
  have := hp j h1
  rw [List.getD_eq_getElem?_getD, List.getD_eq_getElem?_getD, List.getElem?_eq_getElem h1, List.getElem?_eq_getElem h2] at this
  exact this
theorem rtof_spec {w0 w : World} {L : List Asn} {ad : Option Addr} {c : Nat} (l : List LastV) (hll : l.length ≤ 1000000000000) (hr : ∀ w, St w0 L w → RowsAt w ad l.length 3 (fun k => LastV.cells (l.getD k dLast))) (hs : St w0 (L) w) : Calls Tryd.prog 35 #[.slice ad l.length c] w (Ret fun rv w' => (rv = .tuple #[.agg (arrCells LastV.cells l), .int .i64 0] ∧ (tofOK l) = true ∧ St w0 (L) w') ∨ (rv = .tuple #[.agg (arrCells LastV.cells (List.replicate 8 dLast)), .int .i64 1] ∧ (tofOK l) = false ∧ St w0 (L) w')) := by
  refine enter (args := [.slice ad l.length c]) Tryd.func35 rfl Tryd.ntmps35 (Nat.le_of_ble_eq_true (by kernel_rfl)) ?_
  refine GoC.slots (S' := [(0, .slice ad l.length c)]) rfl ?_
  refine GoC.seq ?_
  refine GoC.regT [3, 3] (.ef 0 (.rd 1 .done)) (by kernel_rfl) (by kernel_rfl) ?_
  refine GoR.alloc rfl rfl (by kernel_rfl) (z := .agg #[.int .u64 0, .int .i64 0, .string (⟨#[]⟩ : ByteArray), .int .u64 0, .int .i64 0, .string (⟨#[]⟩ : ByteArray), .int .u64 0, .int .i64 0, .string (⟨#[]⟩ : ByteArray), .int .u64 0, .int .i64 0, .string (⟨#[]⟩ : ByteArray), .int .u64 0, .int .i64 0, .string (⟨#[]⟩ : ByteArray), .int .u64 0, .int .i64 0, .string (⟨#[]⟩ : ByteArray), .int .u64 0, .int .i64 0, .string (⟨#[]⟩ : ByteArray), .int .u64 0, .int .i64 0, .string (⟨#[]⟩ : ByteArray)]) (by kernel_rfl) hs (cs := #[.int .u64 0, .int .i64 0, .string (⟨#[]⟩ : ByteArray), .int .u64 0, .int .i64 0, .string (⟨#[]⟩ : ByteArray), .int .u64 0, .int .i64 0, .string (⟨#[]⟩ : ByteArray), .int .u64 0, .int .i64 0, .string (⟨#[]⟩ : ByteArray), .int .u64 0, .int .i64 0, .string (⟨#[]⟩ : ByteArray), .int .u64 0, .int .i64 0, .string (⟨#[]⟩ : ByteArray), .int .u64 0, .int .i64 0, .string (⟨#[]⟩ : ByteArray), .int .u64 0, .int .i64 0, .string (⟨#[]⟩ : ByteArray)]) (by kernel_rfl) ?_
  intro b1 w2 hs3
  refine ⟨(opn (by kernel_rfl)), ?_⟩
  refine GoR.phaseK [(1, .gen [])] [3, 2, 0] [] [(3, .int .i64 0), (2, .pointer (some ⟨b1, 0, none⟩)), (0, .slice ad l.length c)] (by kernel_rfl) rfl ak0 ?_
  refine GoR.done (GoQ.thn (GoC.seq ?_))
  refine GoC.regT [1] (.ef 0 .done) (by kernel_rfl) (by kernel_rfl) ?_
  refine GoR.alloc rfl rfl (by kernel_rfl) (z := .agg #[.int .u64 0, .int .i64 0, .string (⟨#[]⟩ : ByteArray), .int .u64 0, .int .i64 0, .string (⟨#[]⟩ : ByteArray), .int .u64 0, .int .i64 0, .string (⟨#[]⟩ : ByteArray), .int .u64 0, .int .i64 0, .string (⟨#[]⟩ : ByteArray), .int .u64 0, .int .i64 0, .string (⟨#[]⟩ : ByteArray), .int .u64 0, .int .i64 0, .string (⟨#[]⟩ : ByteArray), .int .u64 0, .int .i64 0, .string (⟨#[]⟩ : ByteArray), .int .u64 0, .int .i64 0, .string (⟨#[]⟩ : ByteArray)]) (by kernel_rfl) hs3 (cs := #[.int .u64 0, .int .i64 0, .string (⟨#[]⟩ : ByteArray), .int .u64 0, .int .i64 0, .string (⟨#[]⟩ : ByteArray), .int .u64 0, .int .i64 0, .string (⟨#[]⟩ : ByteArray), .int .u64 0, .int .i64 0, .string (⟨#[]⟩ : ByteArray), .int .u64 0, .int .i64 0, .string (⟨#[]⟩ : ByteArray), .int .u64 0, .int .i64 0, .string (⟨#[]⟩ : ByteArray), .int .u64 0, .int .i64 0, .string (⟨#[]⟩ : ByteArray), .int .u64 0, .int .i64 0, .string (⟨#[]⟩ : ByteArray)]) (by kernel_rfl) ?_
  intro b4 w5 hs6
  refine ⟨(opn (by kernel_rfl)), ?_⟩
  refine GoR.done (GoQ.thn (GoC.seq (GoC.seq ?_)))
  refine GoC.regT [7, 7, 7] (.rd 0 (.rd 1 (.rd 2 .done))) (by kernel_rfl) (by kernel_rfl) ?_
  refine GoR.phaseK [(0, .gen []), (1, .gen []), (2, .gen [])] [8, 4, 3, 2, 0] [] [(8, .bool (((l.length : Nat) : Int) != 8)), (4, .pointer (some ⟨b4, 0, none⟩)), (3, .int .i64 0), (2, .pointer (some ⟨b1, 0, none⟩)), (0, .slice ad l.length c)] (by kernel_rfl) rfl ak0 ?_
  refine GoR.done (GoQ.thn ?_)
  refine GoC.cond (t := ((l.length : Nat) : Int) != 8) (by kernel_rfl) (fun h7 => ?_) (fun h7 => ?_)
  · have h7' : ¬ (((l.length : Nat) : Int) = 8) := ineT h7
    refine GoC.seq ?_
    refine GoC.regT [7, 7, 7] (.rd 0 (.ef 1 (.rd 2 .done))) (by kernel_rfl) (by kernel_rfl) ?_
    refine GoR.phaseK [(0, .agg #[.int .u64 0, .int .i64 0, .string (⟨#[]⟩ : ByteArray), .int .u64 0, .int .i64 0, .string (⟨#[]⟩ : ByteArray), .int .u64 0, .int .i64 0, .string (⟨#[]⟩ : ByteArray), .int .u64 0, .int .i64 0, .string (⟨#[]⟩ : ByteArray), .int .u64 0, .int .i64 0, .string (⟨#[]⟩ : ByteArray), .int .u64 0, .int .i64 0, .string (⟨#[]⟩ : ByteArray), .int .u64 0, .int .i64 0, .string (⟨#[]⟩ : ByteArray), .int .u64 0, .int .i64 0, .string (⟨#[]⟩ : ByteArray)])] [9, 4, 3, 2, 0] [(0, [.prop (Array.size (#[.int .u64 0, .int .i64 0, .string (⟨#[]⟩ : ByteArray), .int .u64 0, .int .i64 0, .string (⟨#[]⟩ : ByteArray), .int .u64 0, .int .i64 0, .string (⟨#[]⟩ : ByteArray), .int .u64 0, .int .i64 0, .string (⟨#[]⟩ : ByteArray), .int .u64 0, .int .i64 0, .string (⟨#[]⟩ : ByteArray), .int .u64 0, .int .i64 0, .string (⟨#[]⟩ : ByteArray), .int .u64 0, .int .i64 0, .string (⟨#[]⟩ : ByteArray), .int .u64 0, .int .i64 0, .string (⟨#[]⟩ : ByteArray)] : Array Value) = 24), .cells ⟨b4, 0, none⟩ #[.int .u64 0, .int .i64 0, .string (⟨#[]⟩ : ByteArray), .int .u64 0, .int .i64 0, .string (⟨#[]⟩ : ByteArray), .int .u64 0, .int .i64 0, .string (⟨#[]⟩ : ByteArray), .int .u64 0, .int .i64 0, .string (⟨#[]⟩ : ByteArray), .int .u64 0, .int .i64 0, .string (⟨#[]⟩ : ByteArray), .int .u64 0, .int .i64 0, .string (⟨#[]⟩ : ByteArray), .int .u64 0, .int .i64 0, .string (⟨#[]⟩ : ByteArray), .int .u64 0, .int .i64 0, .string (⟨#[]⟩ : ByteArray)]])] [(9, .agg #[.int .u64 0, .int .i64 0, .string (⟨#[]⟩ : ByteArray), .int .u64 0, .int .i64 0, .string (⟨#[]⟩ : ByteArray), .int .u64 0, .int .i64 0, .string (⟨#[]⟩ : ByteArray), .int .u64 0, .int .i64 0, .string (⟨#[]⟩ : ByteArray), .int .u64 0, .int .i64 0, .string (⟨#[]⟩ : ByteArray), .int .u64 0, .int .i64 0, .string (⟨#[]⟩ : ByteArray), .int .u64 0, .int .i64 0, .string (⟨#[]⟩ : ByteArray), .int .u64 0, .int .i64 0, .string (⟨#[]⟩ : ByteArray)]), (4, .pointer (some ⟨b4, 0, none⟩)), (3, .int .i64 0), (2, .pointer (some ⟨b1, 0, none⟩)), (0, .slice ad l.length c)] (by kernel_rfl) rfl (ak (okp (by kernel_rfl) (oka (hs6.cells 0 0 rfl (by kernel_rfl)) ok0)) ak0) ?_
    refine GoR.store rfl rfl (by kernel_rfl) (b := b1) (off := 0) (v := .agg #[.int .u64 0, .int .i64 0, .string (⟨#[]⟩ : ByteArray), .int .u64 0, .int .i64 0, .string (⟨#[]⟩ : ByteArray), .int .u64 0, .int .i64 0, .string (⟨#[]⟩ : ByteArray), .int .u64 0, .int .i64 0, .string (⟨#[]⟩ : ByteArray), .int .u64 0, .int .i64 0, .string (⟨#[]⟩ : ByteArray), .int .u64 0, .int .i64 0, .string (⟨#[]⟩ : ByteArray), .int .u64 0, .int .i64 0, .string (⟨#[]⟩ : ByteArray), .int .u64 0, .int .i64 0, .string (⟨#[]⟩ : ByteArray)]) (by kernel_rfl) (by kernel_rfl) (ti := Tryd.t76) (by kernel_rfl) hs6 1 rfl (by kernel_rfl) (by kernel_rfl) (Nat.le_of_ble_eq_true (by kernel_rfl)) (cs' := #[.int .u64 0, .int .i64 0, .string (⟨#[]⟩ : ByteArray), .int .u64 0, .int .i64 0, .string (⟨#[]⟩ : ByteArray), .int .u64 0, .int .i64 0, .string (⟨#[]⟩ : ByteArray), .int .u64 0, .int .i64 0, .string (⟨#[]⟩ : ByteArray), .int .u64 0, .int .i64 0, .string (⟨#[]⟩ : ByteArray), .int .u64 0, .int .i64 0, .string (⟨#[]⟩ : ByteArray), .int .u64 0, .int .i64 0, .string (⟨#[]⟩ : ByteArray), .int .u64 0, .int .i64 0, .string (⟨#[]⟩ : ByteArray)]) (L' := (Cel b4 #[.int .u64 0, .int .i64 0, .string (⟨#[]⟩ : ByteArray), .int .u64 0, .int .i64 0, .string (⟨#[]⟩ : ByteArray), .int .u64 0, .int .i64 0, .string (⟨#[]⟩ : ByteArray), .int .u64 0, .int .i64 0, .string (⟨#[]⟩ : ByteArray), .int .u64 0, .int .i64 0, .string (⟨#[]⟩ : ByteArray), .int .u64 0, .int .i64 0, .string (⟨#[]⟩ : ByteArray), .int .u64 0, .int .i64 0, .string (⟨#[]⟩ : ByteArray), .int .u64 0, .int .i64 0, .string (⟨#[]⟩ : ByteArray)] 76) :: (Cel b1 #[.int .u64 0, .int .i64 0, .string (⟨#[]⟩ : ByteArray), .int .u64 0, .int .i64 0, .string (⟨#[]⟩ : ByteArray), .int .u64 0, .int .i64 0, .string (⟨#[]⟩ : ByteArray), .int .u64 0, .int .i64 0, .string (⟨#[]⟩ : ByteArray), .int .u64 0, .int .i64 0, .string (⟨#[]⟩ : ByteArray), .int .u64 0, .int .i64 0, .string (⟨#[]⟩ : ByteArray), .int .u64 0, .int .i64 0, .string (⟨#[]⟩ : ByteArray), .int .u64 0, .int .i64 0, .string (⟨#[]⟩ : ByteArray)] 76) :: L) (by kernel_rfl) rfl ?_
    intro w8 hs9
    refine ⟨(opn (by kernel_rfl)), ?_⟩
    refine GoR.phaseK [(2, .gen [])] [3, 4, 2, 0] [] [(3, .int .i64 1), (4, .pointer (some ⟨b4, 0, none⟩)), (2, .pointer (some ⟨b1, 0, none⟩)), (0, .slice ad l.length c)] (by kernel_rfl) rfl ak0 ?_
    refine GoR.done (GoQ.thn (GoC.ret (GoQ.skipCR ?_)))
    refine GoQ.done (.inl rfl) (v := .tuple #[.agg #[.int .u64 0, .int .i64 0, .string (⟨#[]⟩ : ByteArray), .int .u64 0, .int .i64 0, .string (⟨#[]⟩ : ByteArray), .int .u64 0, .int .i64 0, .string (⟨#[]⟩ : ByteArray), .int .u64 0, .int .i64 0, .string (⟨#[]⟩ : ByteArray), .int .u64 0, .int .i64 0, .string (⟨#[]⟩ : ByteArray), .int .u64 0, .int .i64 0, .string (⟨#[]⟩ : ByteArray), .int .u64 0, .int .i64 0, .string (⟨#[]⟩ : ByteArray), .int .u64 0, .int .i64 0, .string (⟨#[]⟩ : ByteArray)], .int .i64 1]) (fun a hf => resultsAV rfl (by kernel_rfl) (by kernel_rfl) (ti := Tryd.t76) (by kernel_rfl) (by kernel_rfl) (vs := #[.int .u64 0, .int .i64 0, .string (⟨#[]⟩ : ByteArray), .int .u64 0, .int .i64 0, .string (⟨#[]⟩ : ByteArray), .int .u64 0, .int .i64 0, .string (⟨#[]⟩ : ByteArray), .int .u64 0, .int .i64 0, .string (⟨#[]⟩ : ByteArray), .int .u64 0, .int .i64 0, .string (⟨#[]⟩ : ByteArray), .int .u64 0, .int .i64 0, .string (⟨#[]⟩ : ByteArray), .int .u64 0, .int .i64 0, .string (⟨#[]⟩ : ByteArray), .int .u64 0, .int .i64 0, .string (⟨#[]⟩ : ByteArray)]) (by kernel_rfl) (hs9.cells 1 0 rfl (by kernel_rfl)) a hf) ?_
    have hs10 : St w0 (L) w8 := hs9.drop 2
    exact .inr (⟨(by kernel_rfl), (by rw [tofOK, decide_eq_false (by omega)]; rfl), hs10⟩)
  · have h7' : ((l.length : Nat) : Int) = 8 := ineF h7
    refine GoC.skip (GoQ.thn (GoC.seq (GoC.seq ?_)))
    refine GoC.regT [1] (.rd 0 .done) (by kernel_rfl) (by kernel_rfl) ?_
    refine GoR.phaseK [(0, .gen [])] [5, 4, 3, 2, 0] [] [(5, .int .i64 0), (4, .pointer (some ⟨b4, 0, none⟩)), (3, .int .i64 0), (2, .pointer (some ⟨b1, 0, none⟩)), (0, .slice ad l.length c)] (by kernel_rfl) rfl ak0 ?_
    refine GoR.done (GoQ.thn (GoC.block ?_))
    have hs11 : St w0 ((Cel b4 (arrCells LastV.cells (List.replicate 8 dLast)) 76) :: (Cel b1 #[.int .u64 0, .int .i64 0, .string (⟨#[]⟩ : ByteArray), .int .u64 0, .int .i64 0, .string (⟨#[]⟩ : ByteArray), .int .u64 0, .int .i64 0, .string (⟨#[]⟩ : ByteArray), .int .u64 0, .int .i64 0, .string (⟨#[]⟩ : ByteArray), .int .u64 0, .int .i64 0, .string (⟨#[]⟩ : ByteArray), .int .u64 0, .int .i64 0, .string (⟨#[]⟩ : ByteArray), .int .u64 0, .int .i64 0, .string (⟨#[]⟩ : ByteArray), .int .u64 0, .int .i64 0, .string (⟨#[]⟩ : ByteArray)] 76) :: L) w5 := Eq.mp (by kernel_rfl) hs6
    have h8 : l.length = 8 := by omega
    refine GoC.loop (T := Nat × (List LastV)) (fun gg => [(0, .slice ad l.length c), (2, .pointer (some ⟨b1, 0, none⟩)), (4, .pointer (some ⟨b4, 0, none⟩)), (5, .int .i64 (gg.1 : Nat))]) (fun gg w => (gg.1 ≤ l.length ∧ gg.2 = l.take gg.1 ++ List.replicate (8 - gg.1) dLast ∧ ∀ y ∈ l.take gg.1, badLast y = false) ∧ St w0 ((Cel b4 (arrCells LastV.cells gg.2) 76) :: (Cel b1 #[.int .u64 0, .int .i64 0, .string (⟨#[]⟩ : ByteArray), .int .u64 0, .int .i64 0, .string (⟨#[]⟩ : ByteArray), .int .u64 0, .int .i64 0, .string (⟨#[]⟩ : ByteArray), .int .u64 0, .int .i64 0, .string (⟨#[]⟩ : ByteArray), .int .u64 0, .int .i64 0, .string (⟨#[]⟩ : ByteArray), .int .u64 0, .int .i64 0, .string (⟨#[]⟩ : ByteArray), .int .u64 0, .int .i64 0, .string (⟨#[]⟩ : ByteArray), .int .u64 0, .int .i64 0, .string (⟨#[]⟩ : ByteArray)] 76) :: L) w) (fun gg => l.length - gg.1) (0, (List.replicate 8 dLast)) [0, 2, 4, 5] (by kernel_rfl) ⟨⟨Nat.zero_le _, rfl, fun y hy => by simp at hy⟩, hs11⟩ ?_
    rintro ⟨k, tb⟩ w12 ⟨hp0, hs13⟩
    have hp : k ≤ l.length ∧ tb = l.take k ++ List.replicate (8 - k) dLast ∧ ∀ y ∈ l.take k, badLast y = false := hp0
    have hs14 : St w0 ((Cel b4 (arrCells LastV.cells tb) 76) :: (Cel b1 #[.int .u64 0, .int .i64 0, .string (⟨#[]⟩ : ByteArray), .int .u64 0, .int .i64 0, .string (⟨#[]⟩ : ByteArray), .int .u64 0, .int .i64 0, .string (⟨#[]⟩ : ByteArray), .int .u64 0, .int .i64 0, .string (⟨#[]⟩ : ByteArray), .int .u64 0, .int .i64 0, .string (⟨#[]⟩ : ByteArray), .int .u64 0, .int .i64 0, .string (⟨#[]⟩ : ByteArray), .int .u64 0, .int .i64 0, .string (⟨#[]⟩ : ByteArray), .int .u64 0, .int .i64 0, .string (⟨#[]⟩ : ByteArray)] 76) :: L) w12 := hs13
    refine GoC.slots (S' := [(0, .slice ad l.length c), (2, .pointer (some ⟨b1, 0, none⟩)), (4, .pointer (some ⟨b4, 0, none⟩)), (5, .int .i64 (k : Nat))]) rfl ?_
    have htl : tb.length = 8 := by rw [hp.2.1]; simp only [List.length_append, List.length_take, List.length_replicate]; omega
    refine GoC.seq (GoC.seq ?_)
    refine GoC.regT [15, 15, 15, 15] (.rd 0 (.rd 1 (.rd 2 (.rd 3 .done)))) (by kernel_rfl) (by kernel_rfl) ?_
    refine GoR.phaseK [(0, .gen []), (1, .gen []), (2, .gen []), (3, .gen [])] [13, 0, 2, 4, 5] [] [(13, .bool (decide (((k : Nat) : Int) < (l.length : Nat)))), (0, .slice ad l.length c), (2, .pointer (some ⟨b1, 0, none⟩)), (4, .pointer (some ⟨b4, 0, none⟩)), (5, .int .i64 (k : Nat))] (by kernel_rfl) rfl ak0 ?_
    refine GoR.done (GoQ.thn ?_)
    refine GoC.cond (t := decide (((k : Nat) : Int) < (l.length : Nat))) (by kernel_rfl) (fun h15 => ?_) (fun h15 => ?_)
    · have h15' : ((k : Nat) : Int) < (l.length : Nat) := of_decide_eq_true h15
      have hk : k < l.length := by omega
      obtain ⟨ab16, ao17, rfl⟩ := RowsAt.isSome (hr _ (hs14.drop 2)) (by omega)
      refine GoC.skip (GoQ.thn (GoC.seq (GoC.block (GoC.seq (GoC.seq ?_)))))
      refine GoC.regT [32767, 32767, 32767, 32767, 32767, 32767, 32767, 32767, 32767, 32767, 32767, 32767, 32767, 32767, 32767] (.rd 0 (.rd 1 (.rd 2 (.rd 3 (.rd 4 (.rd 5 (.rd 6 (.rd 7 (.rd 8 (.rd 9 (.rd 10 (.rd 11 (.rd 12 (.rd 13 (.rd 14 .done))))))))))))))) (by kernel_rfl) (by kernel_rfl) ?_
      refine GoR.phaseK [(0, .gen []), (1, .gen []), (2, .as_ (.pointer (some ⟨ab16, ao17 + (k * 3), none⟩)) .at_), (3, .gen []), (4, .gen [.int .u64 ((l.getD k dLast).time)]), (5, .gen []), (6, .gen [])] [22, 0, 2, 4, 5] [(2, [.prop (0 ≤ ((k : Nat) : Int) ∧ ((k : Nat) : Int) < ((l.length : Nat) : Int)), .prop (Value.pointer (some (Addr.add ⟨ab16, ao17, none⟩ (Int.toNat (k : Nat) * 3))) = Value.pointer (some ⟨ab16, ao17 + (k * 3), none⟩))]), (4, [.cell ⟨ab16, ao17 + (k * 3), none⟩ (.int .u64 ((l.getD k dLast).time))])] [(22, .bool ((((l.getD k dLast).time) : Int) == 0)), (0, .slice (some ⟨ab16, ao17, none⟩) l.length c), (2, .pointer (some ⟨b1, 0, none⟩)), (4, .pointer (some ⟨b4, 0, none⟩)), (5, .int .i64 (k : Nat))] (by kernel_rfl) rfl (ak (okp (by omega) (okp (ptrAdd _ _ _) ok0)) (ak (okc (RowsAt.at0 (hr _ (hs14.drop 2)) (by first | omega | (simp only [List.length_set]; omega)) (j := 0) (by decide) (by kernel_rfl)) ok0) ak0)) ?_
      rcases Bool.eq_false_or_eq_true ((((l.getD k dLast).time) : Int) == 0) with h18 | h18
      · refine GoR.setB 22 true (by decide) (by kernel_rfl) h18 ?_
        have h18' : ((l.getD k dLast).time : Int) = 0 := ieqT h18
        refine GoR.phaseK [(7, .gen []), (8, .gen []), (9, .as_ (.pointer (some ⟨ab16, ao17 + (k * 3), none⟩)) .at_), (10, .gen []), (11, .agg (RepV.cells ((l.getD k dLast).reply))), (12, .gen [])] [28, 27, 22, 0, 2, 4, 5] [(9, [.prop (0 ≤ ((k : Nat) : Int) ∧ ((k : Nat) : Int) < ((l.length : Nat) : Int)), .prop (Value.pointer (some (Addr.add ⟨ab16, ao17, none⟩ (Int.toNat (k : Nat) * 3))) = Value.pointer (some ⟨ab16, ao17 + (k * 3), none⟩))]), (11, [.prop (Array.size (RepV.cells ((l.getD k dLast).reply)) = 2), .cells ⟨ab16, ao17 + (k * 3) + 1, none⟩ (RepV.cells ((l.getD k dLast).reply))])] [(28, .agg #[.int .i64 0, .string (⟨#[]⟩ : ByteArray)]), (27, .agg (RepV.cells ((l.getD k dLast).reply))), (22, .bool true), (0, .slice (some ⟨ab16, ao17, none⟩) l.length c), (2, .pointer (some ⟨b1, 0, none⟩)), (4, .pointer (some ⟨b4, 0, none⟩)), (5, .int .i64 (k : Nat))] (by kernel_rfl) rfl (ak (okp (by omega) (okp (ptrAdd _ _ _) ok0)) (ak (okp (by kernel_rfl) (oka (RowsAt.all (hr _ (hs14.drop 2)) (by first | omega | (simp only [List.length_set]; omega)) (Nat.le_of_ble_eq_true (by kernel_rfl)) (by kernel_rfl)) ok0)) ak0)) ?_
        refine GoR.eqAgg rfl (by kernel_rfl) (b := false) (t := 34) (xs := RepV.cells ((l.getD k dLast).reply)) (ys := RepV.cells (⟨0, (⟨#[]⟩ : ByteArray)⟩ : RepV)) (m := 2) (by kernel_rfl) (by kernel_rfl) (by decide) (by kernel_rfl) (r := !(decide ((l.getD k dLast).reply = (⟨0, (⟨#[]⟩ : ByteArray)⟩ : RepV)))) (aggNe  (repEq ((l.getD k dLast).reply) (⟨0, (⟨#[]⟩ : ByteArray)⟩ : RepV))) ?_
        refine GoR.phaseK [(14, .gen [])] [30, 0, 2, 4, 5] [] [(30, .bool (!(decide ((l.getD k dLast).reply = (⟨0, (⟨#[]⟩ : ByteArray)⟩ : RepV))))), (0, .slice (some ⟨ab16, ao17, none⟩) l.length c), (2, .pointer (some ⟨b1, 0, none⟩)), (4, .pointer (some ⟨b4, 0, none⟩)), (5, .int .i64 (k : Nat))] (by kernel_rfl) rfl ak0 ?_
        refine GoR.done (GoQ.thn ?_)
        refine GoC.cond (t := !(decide ((l.getD k dLast).reply = (⟨0, (⟨#[]⟩ : ByteArray)⟩ : RepV)))) (by kernel_rfl) (fun h19 => ?_) (fun h19 => ?_)
        · have h19n : (decide ((l.getD k dLast).reply = (⟨0, (⟨#[]⟩ : ByteArray)⟩ : RepV))) = false := notT h19
          have h19n' : ¬ ((l.getD k dLast).reply = (⟨0, (⟨#[]⟩ : ByteArray)⟩ : RepV)) := of_decide_eq_false h19n
          refine GoC.seq ?_
          refine GoC.regT [7, 7, 7] (.rd 0 (.ef 1 (.rd 2 .done))) (by kernel_rfl) (by kernel_rfl) ?_
          refine GoR.phaseK [(0, .gen [])] [31, 0, 2, 4, 5] [] [(31, .agg #[.int .u64 0, .int .i64 0, .string (⟨#[]⟩ : ByteArray), .int .u64 0, .int .i64 0, .string (⟨#[]⟩ : ByteArray), .int .u64 0, .int .i64 0, .string (⟨#[]⟩ : ByteArray), .int .u64 0, .int .i64 0, .string (⟨#[]⟩ : ByteArray), .int .u64 0, .int .i64 0, .string (⟨#[]⟩ : ByteArray), .int .u64 0, .int .i64 0, .string (⟨#[]⟩ : ByteArray), .int .u64 0, .int .i64 0, .string (⟨#[]⟩ : ByteArray), .int .u64 0, .int .i64 0, .string (⟨#[]⟩ : ByteArray)]), (0, .slice (some ⟨ab16, ao17, none⟩) l.length c), (2, .pointer (some ⟨b1, 0, none⟩)), (4, .pointer (some ⟨b4, 0, none⟩)), (5, .int .i64 (k : Nat))] (by kernel_rfl) rfl ak0 ?_
          refine GoR.store rfl rfl (by kernel_rfl) (b := b1) (off := 0) (v := .agg #[.int .u64 0, .int .i64 0, .string (⟨#[]⟩ : ByteArray), .int .u64 0, .int .i64 0, .string (⟨#[]⟩ : ByteArray), .int .u64 0, .int .i64 0, .string (⟨#[]⟩ : ByteArray), .int .u64 0, .int .i64 0, .string (⟨#[]⟩ : ByteArray), .int .u64 0, .int .i64 0, .string (⟨#[]⟩ : ByteArray), .int .u64 0, .int .i64 0, .string (⟨#[]⟩ : ByteArray), .int .u64 0, .int .i64 0, .string (⟨#[]⟩ : ByteArray), .int .u64 0, .int .i64 0, .string (⟨#[]⟩ : ByteArray)]) (by kernel_rfl) (by kernel_rfl) (ti := Tryd.t76) (by kernel_rfl) hs14 1 rfl (by kernel_rfl) (by kernel_rfl) (Nat.le_of_ble_eq_true (by kernel_rfl)) (cs' := #[.int .u64 0, .int .i64 0, .string (⟨#[]⟩ : ByteArray), .int .u64 0, .int .i64 0, .string (⟨#[]⟩ : ByteArray), .int .u64 0, .int .i64 0, .string (⟨#[]⟩ : ByteArray), .int .u64 0, .int .i64 0, .string (⟨#[]⟩ : ByteArray), .int .u64 0, .int .i64 0, .string (⟨#[]⟩ : ByteArray), .int .u64 0, .int .i64 0, .string (⟨#[]⟩ : ByteArray), .int .u64 0, .int .i64 0, .string (⟨#[]⟩ : ByteArray), .int .u64 0, .int .i64 0, .string (⟨#[]⟩ : ByteArray)]) (L' := (Cel b4 (arrCells LastV.cells tb) 76) :: (Cel b1 #[.int .u64 0, .int .i64 0, .string (⟨#[]⟩ : ByteArray), .int .u64 0, .int .i64 0, .string (⟨#[]⟩ : ByteArray), .int .u64 0, .int .i64 0, .string (⟨#[]⟩ : ByteArray), .int .u64 0, .int .i64 0, .string (⟨#[]⟩ : ByteArray), .int .u64 0, .int .i64 0, .string (⟨#[]⟩ : ByteArray), .int .u64 0, .int .i64 0, .string (⟨#[]⟩ : ByteArray), .int .u64 0, .int .i64 0, .string (⟨#[]⟩ : ByteArray), .int .u64 0, .int .i64 0, .string (⟨#[]⟩ : ByteArray)] 76) :: L) (by kernel_rfl) rfl ?_
          intro w20 hs21
          refine ⟨(opn (by kernel_rfl)), ?_⟩
          refine GoR.phaseK [(2, .gen [])] [3, 0, 2, 4, 5] [] [(3, .int .i64 1), (0, .slice (some ⟨ab16, ao17, none⟩) l.length c), (2, .pointer (some ⟨b1, 0, none⟩)), (4, .pointer (some ⟨b4, 0, none⟩)), (5, .int .i64 (k : Nat))] (by kernel_rfl) rfl ak0 ?_
          refine GoR.done (GoQ.thn (GoC.ret (GoQ.skipCR (GoQ.blkR (GoQ.skipCR (GoQ.skipLR (GoQ.blkR (GoQ.skipCR ?_))))))))
          refine GoQ.done (.inl rfl) (v := .tuple #[.agg #[.int .u64 0, .int .i64 0, .string (⟨#[]⟩ : ByteArray), .int .u64 0, .int .i64 0, .string (⟨#[]⟩ : ByteArray), .int .u64 0, .int .i64 0, .string (⟨#[]⟩ : ByteArray), .int .u64 0, .int .i64 0, .string (⟨#[]⟩ : ByteArray), .int .u64 0, .int .i64 0, .string (⟨#[]⟩ : ByteArray), .int .u64 0, .int .i64 0, .string (⟨#[]⟩ : ByteArray), .int .u64 0, .int .i64 0, .string (⟨#[]⟩ : ByteArray), .int .u64 0, .int .i64 0, .string (⟨#[]⟩ : ByteArray)], .int .i64 1]) (fun a hf => resultsAV rfl (by kernel_rfl) (by kernel_rfl) (ti := Tryd.t76) (by kernel_rfl) (by kernel_rfl) (vs := #[.int .u64 0, .int .i64 0, .string (⟨#[]⟩ : ByteArray), .int .u64 0, .int .i64 0, .string (⟨#[]⟩ : ByteArray), .int .u64 0, .int .i64 0, .string (⟨#[]⟩ : ByteArray), .int .u64 0, .int .i64 0, .string (⟨#[]⟩ : ByteArray), .int .u64 0, .int .i64 0, .string (⟨#[]⟩ : ByteArray), .int .u64 0, .int .i64 0, .string (⟨#[]⟩ : ByteArray), .int .u64 0, .int .i64 0, .string (⟨#[]⟩ : ByteArray), .int .u64 0, .int .i64 0, .string (⟨#[]⟩ : ByteArray)]) (by kernel_rfl) (hs21.cells 1 0 rfl (by kernel_rfl)) a hf) ?_
          have hs22 : St w0 (L) w20 := hs21.drop 2
          exact .inr (⟨(by kernel_rfl), (by rw [tofOK, show l.any badLast = true from List.any_eq_true.2 ⟨_, getD_mem (d := dLast) hk, (bad_reply h18).trans h19⟩, Bool.not_true, Bool.and_false]), hs22⟩)
        · have h19n : (decide ((l.getD k dLast).reply = (⟨0, (⟨#[]⟩ : ByteArray)⟩ : RepV))) = true := notF h19
          have h19n' : (l.getD k dLast).reply = (⟨0, (⟨#[]⟩ : ByteArray)⟩ : RepV) := of_decide_eq_true h19n
          refine GoC.skip (GoQ.thn ?_)
          refine GoC.regT [127, 127, 127, 127, 127, 127, 127] (.rd 0 (.rd 1 (.rd 2 (.rd 3 (.rd 4 (.rd 5 (.ef 6 .done))))))) (by kernel_rfl) (by kernel_rfl) ?_
          refine GoR.phaseK [(0, .gen []), (1, .gen []), (2, .gen []), (3, .as_ (.pointer (some ⟨ab16, ao17 + (k * 3), none⟩)) .at_), (4, .agg (LastV.cells (l.getD k dLast))), (5, .as_ (.pointer (some ⟨b4, 0 + (k * 3), none⟩)) .at_)] [37, 36, 0, 2, 4, 5] [(3, [.prop (0 ≤ ((k : Nat) : Int) ∧ ((k : Nat) : Int) < ((l.length : Nat) : Int)), .prop (Value.pointer (some (Addr.add ⟨ab16, ao17, none⟩ (Int.toNat (k : Nat) * 3))) = Value.pointer (some ⟨ab16, ao17 + (k * 3), none⟩))]), (4, [.prop (Array.size (LastV.cells (l.getD k dLast)) = 3), .cells ⟨ab16, ao17 + (k * 3), none⟩ (LastV.cells (l.getD k dLast))]), (5, [.prop (0 ≤ ((k : Nat) : Int) ∧ ((k : Nat) : Int) < (8 : Int)), .prop (Value.pointer (some (Addr.add ⟨b4, 0, none⟩ (Int.toNat (k : Nat) * 3))) = Value.pointer (some ⟨b4, 0 + (k * 3), none⟩))])] [(37, .pointer (some ⟨b4, 0 + (k * 3), none⟩)), (36, .agg (LastV.cells (l.getD k dLast))), (0, .slice (some ⟨ab16, ao17, none⟩) l.length c), (2, .pointer (some ⟨b1, 0, none⟩)), (4, .pointer (some ⟨b4, 0, none⟩)), (5, .int .i64 (k : Nat))] (by kernel_rfl) rfl (ak (okp (by omega) (okp (ptrAdd _ _ _) ok0)) (ak (okp (by kernel_rfl) (oka (RowsAt.all0 (hr _ (hs14.drop 2)) (by first | omega | (simp only [List.length_set]; omega)) (Nat.le_of_ble_eq_true (by kernel_rfl)) (by kernel_rfl)) ok0)) (ak (okp (by omega) (okp (ptrAdd _ _ _) ok0)) ak0))) ?_
          refine GoR.store rfl rfl (by kernel_rfl) (b := b4) (off := 0 + (k * 3)) (v := .agg (LastV.cells (l.getD k dLast))) (by kernel_rfl) (by kernel_rfl) (ti := Tryd.t41) (by kernel_rfl) hs14 0 rfl (by kernel_rfl) (by kernel_rfl) (by rw [Nat.zero_add]; exact arr_room (f := LastV.cells) (size := 3) (l := tb) (k := k) (lastF).size (by first | omega | (simp only [List.length_set]; omega))) (cs' := arrCells LastV.cells (tb.set k (l.getD k dLast))) (L' := (Cel b4 (arrCells LastV.cells (tb.set k (l.getD k dLast))) 76) :: (Cel b1 #[.int .u64 0, .int .i64 0, .string (⟨#[]⟩ : ByteArray), .int .u64 0, .int .i64 0, .string (⟨#[]⟩ : ByteArray), .int .u64 0, .int .i64 0, .string (⟨#[]⟩ : ByteArray), .int .u64 0, .int .i64 0, .string (⟨#[]⟩ : ByteArray), .int .u64 0, .int .i64 0, .string (⟨#[]⟩ : ByteArray), .int .u64 0, .int .i64 0, .string (⟨#[]⟩ : ByteArray), .int .u64 0, .int .i64 0, .string (⟨#[]⟩ : ByteArray), .int .u64 0, .int .i64 0, .string (⟨#[]⟩ : ByteArray)] 76) :: L) (by rw [Nat.zero_add]; exact splice_arr (f := LastV.cells) (size := 3) (l := tb) (k := k) (lastF).size (by first | omega | (simp only [List.length_set]; omega)) (l.getD k dLast)) rfl ?_
          intro w23 hs24
          refine ⟨(opn (by kernel_rfl)), ?_⟩
          refine GoR.done (GoQ.blkN (GoQ.thn ?_))
          refine GoC.regT [7, 7, 7] (.rd 0 (.rd 1 (.rd 2 .done))) (by kernel_rfl) (by kernel_rfl) ?_
          refine GoR.phaseK [(0, .gen []), (1, .as_ (.int .i64 ((k : Nat) + 1)) (.gen [])), (2, .gen [])] [5, 0, 2, 4] [(1, [.prop (Value.int .i64 (IntKind.i64.wrap ((k : Nat) + 1)) = Value.int .i64 ((k : Nat) + 1))])] [(5, .int .i64 ((k : Nat) + 1)), (0, .slice (some ⟨ab16, ao17, none⟩) l.length c), (2, .pointer (some ⟨b1, 0, none⟩)), (4, .pointer (some ⟨b4, 0, none⟩))] (by kernel_rfl) rfl (ak (okp (i64ok (by omega) (by omega)) ok0) ak0) ?_
          refine GoR.done ?_
          exact GoQ.back (k + 1, tb.set k (l.getD k dLast)) [0, 2, 4, 5] (by kernel_rfl) (by show l.length - (k + 1) < l.length - k; omega) ⟨⟨by omega, by rw [hp.2.1]; exact take_put hk h8, fun y hy => by rw [take_succ_getD (d := dLast) hk] at hy; exact (List.mem_append.1 hy).elim (hp.2.2 y) (fun h => by rw [List.mem_singleton.1 h]; exact ((bad_reply h18).trans h19))⟩, hs24⟩
      · refine GoR.setB 22 false (by decide) (by kernel_rfl) h18 ?_
        have h18' : ¬ (((l.getD k dLast).time : Int) = 0) := ieqF h18
        refine GoR.phaseK [(7, .gen []), (8, .gen []), (9, .gen []), (10, .gen []), (11, .gen []), (12, .gen []), (13, .gen []), (14, .gen [])] [30, 0, 2, 4, 5] [] [(30, .bool false), (0, .slice (some ⟨ab16, ao17, none⟩) l.length c), (2, .pointer (some ⟨b1, 0, none⟩)), (4, .pointer (some ⟨b4, 0, none⟩)), (5, .int .i64 (k : Nat))] (by kernel_rfl) rfl ak0 ?_
        refine GoR.done (GoQ.thn (GoC.condF (by kernel_rfl) (GoC.skip (GoQ.thn ?_))))
        refine GoC.regT [127, 127, 127, 127, 127, 127, 127] (.rd 0 (.rd 1 (.rd 2 (.rd 3 (.rd 4 (.rd 5 (.ef 6 .done))))))) (by kernel_rfl) (by kernel_rfl) ?_
        refine GoR.phaseK [(0, .gen []), (1, .gen []), (2, .gen []), (3, .as_ (.pointer (some ⟨ab16, ao17 + (k * 3), none⟩)) .at_), (4, .agg (LastV.cells (l.getD k dLast))), (5, .as_ (.pointer (some ⟨b4, 0 + (k * 3), none⟩)) .at_)] [37, 36, 0, 2, 4, 5] [(3, [.prop (0 ≤ ((k : Nat) : Int) ∧ ((k : Nat) : Int) < ((l.length : Nat) : Int)), .prop (Value.pointer (some (Addr.add ⟨ab16, ao17, none⟩ (Int.toNat (k : Nat) * 3))) = Value.pointer (some ⟨ab16, ao17 + (k * 3), none⟩))]), (4, [.prop (Array.size (LastV.cells (l.getD k dLast)) = 3), .cells ⟨ab16, ao17 + (k * 3), none⟩ (LastV.cells (l.getD k dLast))]), (5, [.prop (0 ≤ ((k : Nat) : Int) ∧ ((k : Nat) : Int) < (8 : Int)), .prop (Value.pointer (some (Addr.add ⟨b4, 0, none⟩ (Int.toNat (k : Nat) * 3))) = Value.pointer (some ⟨b4, 0 + (k * 3), none⟩))])] [(37, .pointer (some ⟨b4, 0 + (k * 3), none⟩)), (36, .agg (LastV.cells (l.getD k dLast))), (0, .slice (some ⟨ab16, ao17, none⟩) l.length c), (2, .pointer (some ⟨b1, 0, none⟩)), (4, .pointer (some ⟨b4, 0, none⟩)), (5, .int .i64 (k : Nat))] (by kernel_rfl) rfl (ak (okp (by omega) (okp (ptrAdd _ _ _) ok0)) (ak (okp (by kernel_rfl) (oka (RowsAt.all0 (hr _ (hs14.drop 2)) (by first | omega | (simp only [List.length_set]; omega)) (Nat.le_of_ble_eq_true (by kernel_rfl)) (by kernel_rfl)) ok0)) (ak (okp (by omega) (okp (ptrAdd _ _ _) ok0)) ak0))) ?_
        refine GoR.store rfl rfl (by kernel_rfl) (b := b4) (off := 0 + (k * 3)) (v := .agg (LastV.cells (l.getD k dLast))) (by kernel_rfl) (by kernel_rfl) (ti := Tryd.t41) (by kernel_rfl) hs14 0 rfl (by kernel_rfl) (by kernel_rfl) (by rw [Nat.zero_add]; exact arr_room (f := LastV.cells) (size := 3) (l := tb) (k := k) (lastF).size (by first | omega | (simp only [List.length_set]; omega))) (cs' := arrCells LastV.cells (tb.set k (l.getD k dLast))) (L' := (Cel b4 (arrCells LastV.cells (tb.set k (l.getD k dLast))) 76) :: (Cel b1 #[.int .u64 0, .int .i64 0, .string (⟨#[]⟩ : ByteArray), .int .u64 0, .int .i64 0, .string (⟨#[]⟩ : ByteArray), .int .u64 0, .int .i64 0, .string (⟨#[]⟩ : ByteArray), .int .u64 0, .int .i64 0, .string (⟨#[]⟩ : ByteArray), .int .u64 0, .int .i64 0, .string (⟨#[]⟩ : ByteArray), .int .u64 0, .int .i64 0, .string (⟨#[]⟩ : ByteArray), .int .u64 0, .int .i64 0, .string (⟨#[]⟩ : ByteArray), .int .u64 0, .int .i64 0, .string (⟨#[]⟩ : ByteArray)] 76) :: L) (by rw [Nat.zero_add]; exact splice_arr (f := LastV.cells) (size := 3) (l := tb) (k := k) (lastF).size (by first | omega | (simp only [List.length_set]; omega)) (l.getD k dLast)) rfl ?_
        intro w25 hs26
        refine ⟨(opn (by kernel_rfl)), ?_⟩
        refine GoR.done (GoQ.blkN (GoQ.thn ?_))
        refine GoC.regT [7, 7, 7] (.rd 0 (.rd 1 (.rd 2 .done))) (by kernel_rfl) (by kernel_rfl) ?_
        refine GoR.phaseK [(0, .gen []), (1, .as_ (.int .i64 ((k : Nat) + 1)) (.gen [])), (2, .gen [])] [5, 0, 2, 4] [(1, [.prop (Value.int .i64 (IntKind.i64.wrap ((k : Nat) + 1)) = Value.int .i64 ((k : Nat) + 1))])] [(5, .int .i64 ((k : Nat) + 1)), (0, .slice (some ⟨ab16, ao17, none⟩) l.length c), (2, .pointer (some ⟨b1, 0, none⟩)), (4, .pointer (some ⟨b4, 0, none⟩))] (by kernel_rfl) rfl (ak (okp (i64ok (by omega) (by omega)) ok0) ak0) ?_
        refine GoR.done ?_
        exact GoQ.back (k + 1, tb.set k (l.getD k dLast)) [0, 2, 4, 5] (by kernel_rfl) (by show l.length - (k + 1) < l.length - k; omega) ⟨⟨by omega, by rw [hp.2.1]; exact take_put hk h8, fun y hy => by rw [take_succ_getD (d := dLast) hk] at hy; exact (List.mem_append.1 hy).elim (hp.2.2 y) (fun h => by rw [List.mem_singleton.1 h]; exact (bad_time h18))⟩, hs26⟩
    · have h15' : ¬ (((k : Nat) : Int) < (l.length : Nat)) := of_decide_eq_false h15
      have htb : tb = l := by rw [hp.2.1, List.take_of_length_le (by omega), show 8 - k = 0 by omega]; simp
      have hno : l.any badLast = false := by rw [List.any_eq_false]; intro y hy; rw [hp.2.2 y (by rw [List.take_of_length_le (by omega)]; exact hy)]; decide
      refine GoC.exit (GoQ.skipC (GoQ.skipL (GoQ.hit (GoQ.thn (GoC.seq ?_)))))
      refine GoC.regT [7, 7, 7] (.rd 0 (.ef 1 (.rd 2 .done))) (by kernel_rfl) (by kernel_rfl) ?_
      refine GoR.phaseK [(0, .agg (arrCells LastV.cells tb))] [38, 2] [(0, [.prop (Array.size ((arrCells LastV.cells tb)) = 24), .cells ⟨b4, 0, none⟩ (arrCells LastV.cells tb)])] [(38, .agg (arrCells LastV.cells tb)), (2, .pointer (some ⟨b1, 0, none⟩))] (by kernel_rfl) rfl (ak (okp (arrvSize lastF (show (tb).length = 8 from (by first | assumption | omega | decide)) rfl) (oka (hs14.cells 0 0 rfl (by simp)) ok0)) ak0) ?_
      refine GoR.store rfl rfl (by kernel_rfl) (b := b1) (off := 0) (v := .agg (arrCells LastV.cells tb)) (by kernel_rfl) (by kernel_rfl) (ti := Tryd.t76) (by kernel_rfl) hs14 1 rfl (arrvCells lastF (show (tb).length = 8 from (by first | assumption | omega | decide)) (by kernel_rfl)) (arrvOne lastF) (arrvRoom lastF (show (tb).length = 8 from (by first | assumption | omega | decide)) (by kernel_rfl)) (cs' := arrCells LastV.cells tb) (L' := (Cel b4 (arrCells LastV.cells tb) 76) :: (Cel b1 (arrCells LastV.cells tb) 76) :: L) (arrvPut lastF (show (tb).length = 8 from (by first | assumption | omega | decide)) (by kernel_rfl)) rfl ?_
      intro w27 hs28
      refine ⟨(opn (by kernel_rfl)), ?_⟩
      refine GoR.phaseK [(2, .gen [])] [3, 2] [] [(3, .int .i64 0), (2, .pointer (some ⟨b1, 0, none⟩))] (by kernel_rfl) rfl ak0 ?_
      refine GoR.done (GoQ.thn (GoC.ret ?_))
      refine GoQ.done (.inl rfl) (v := .tuple #[.agg (arrCells LastV.cells tb), .int .i64 0]) (fun a hf => resultsAV rfl (by kernel_rfl) (by kernel_rfl) (ti := Tryd.t76) (by kernel_rfl) (by kernel_rfl) (vs := (arrCells LastV.cells tb)) (arrvSize lastF (show (tb).length = 8 from (by first | assumption | omega | decide)) (by kernel_rfl)) (hs28.cells 1 0 rfl (by simp)) a hf) ?_
      have hs29 : St w0 (L) w27 := hs28.drop 2
      exact .inl ⟨(by rw [htb]), (by rw [tofOK, hno, decide_eq_true h8]; rfl), hs29⟩
def rsdo (tl : List LastV) (l : List ItemV) (r : ReqV) : (RepV × Bool) × List LastV × List ItemV :=
  if (((decide ((r.client : Int) < 1)) || (decide ((r.client : Int) > 8))) || ((r.time : Int) == 0)) = true then
    (((⟨1, (⟨#[]⟩ : ByteArray)⟩ : RepV), false), tl, l)
  else
    if (decide ((r.time : Int) < ((tl.getD (Int.toNat (r.client - 1)) dLast).time))) = true then
      (((⟨13, (⟨#[]⟩ : ByteArray)⟩ : RepV), false), tl, l)
    else
      if ((r.time : Int) == ((tl.getD (Int.toNat (r.client - 1)) dLast).time)) = true then
        (((tl.getD (Int.toNat (r.client - 1)) dLast).reply, false), tl, l)
      else
        (((rdo l r.op).1, true), tl.set (Int.toNat (r.client - 1)) (⟨r.time, ⟨((rdo l r.op).1).err, ((rdo l r.op).1).value⟩⟩ : LastV), (rdo l r.op).2)
theorem rsdo_spec {w0 w : World} {L : List Asn} {p : Nat} {q : Nat} {ad : Option Addr} {c : Nat} (tl : List LastV) (l : List ItemV) (r : ReqV) (h8 : tl.length = 8) (hl : l.length ≤ 10000000) (hsv : ∀ x ∈ l, x.value.size ≤ 281474976710656) (ha : 0 ≤ r.op.amount) (hs : St w0 ((Cel p (arrCells LastV.cells tl) 76) :: (Cel q #[.slice ad l.length c] 68) :: (Sl ad c 61 2 ItemV.cells l) :: L) w) : Calls Tryd.prog 36 #[.pointer (some ⟨p, 0, none⟩), .pointer (some ⟨q, 0, none⟩), .agg (ReqV.cells r)] w (Ret fun rv w' => ∃ (ad2 : Option Addr) (c2 : Nat), rv = .tuple #[.agg (RepV.cells ((rsdo tl l r).1.1)), .bool ((rsdo tl l r).1.2)] ∧ St w0 ((Cel p (arrCells LastV.cells ((rsdo tl l r).2.1)) 76) :: (Cel q #[.slice ad2 (((rsdo tl l r).2.2).length) c2] 68) :: (Sl ad2 c2 61 2 ItemV.cells ((rsdo tl l r).2.2)) :: L) w') := by
  refine enter (args := [.pointer (some ⟨p, 0, none⟩), .pointer (some ⟨q, 0, none⟩), .agg (ReqV.cells r)]) Tryd.func36 rfl Tryd.ntmps36 (Nat.le_of_ble_eq_true (by kernel_rfl)) ?_
  refine GoC.slots (S' := [(0, .pointer (some ⟨p, 0, none⟩)), (1, .pointer (some ⟨q, 0, none⟩)), (2, .agg (ReqV.cells r))]) rfl ?_
  refine GoC.seq ?_
  refine GoC.regT [7, 7, 7] (.ef 0 (.ef 1 (.rd 2 .done))) (by kernel_rfl) (by kernel_rfl) ?_
  refine GoR.box rfl rfl (by kernel_rfl) (v := .agg (ReqV.cells r)) (by kernel_rfl) hs (cs := ReqV.cells r) (by kernel_rfl) ?_
  intro b1 w2 hs3
  refine ⟨(opn (by kernel_rfl)), ?_⟩
  refine GoR.alloc rfl rfl (by kernel_rfl) (z := .agg #[.int .i64 0, .string (⟨#[]⟩ : ByteArray)]) (by kernel_rfl) hs3 (cs := #[.int .i64 0, .string (⟨#[]⟩ : ByteArray)]) (by kernel_rfl) ?_
  intro b4 w5 hs6
  refine ⟨(opn (by kernel_rfl)), ?_⟩
  refine GoR.phaseK [(2, .gen [])] [7, 6, 5, 0, 1] [] [(7, .bool false), (6, .pointer (some ⟨b4, 0, none⟩)), (5, .pointer (some ⟨b1, 0, none⟩)), (0, .pointer (some ⟨p, 0, none⟩)), (1, .pointer (some ⟨q, 0, none⟩))] (by kernel_rfl) rfl ak0 ?_
  refine GoR.done (GoQ.thn (GoC.seq (GoC.seq ?_)))
  refine GoC.join (T := Unit) (E := fun _ => [(22, .bool (((decide ((r.client : Int) < 1)) || (decide ((r.client : Int) > 8))) || ((r.time : Int) == 0))), (7, .bool false), (6, .pointer (some ⟨b4, 0, none⟩)), (5, .pointer (some ⟨b1, 0, none⟩)), (0, .pointer (some ⟨p, 0, none⟩)), (1, .pointer (some ⟨q, 0, none⟩))]) (F := fun _ w => St w0 ((Cel b4 #[.int .i64 0, .string (⟨#[]⟩ : ByteArray)] 34) :: (Cel b1 (ReqV.cells r) 27) :: (Cel p (arrCells LastV.cells tl) 76) :: (Cel q #[.slice ad l.length c] 68) :: (Sl ad c 61 2 ItemV.cells l) :: L) w) ?_ ?_
  · refine GoC.regT [8191, 8191, 8191, 8191, 8191, 8191, 8191, 8191, 8191, 8191, 8191, 8191, 8191] (.rd 0 (.rd 1 (.rd 2 (.rd 3 (.rd 4 (.rd 5 (.rd 6 (.rd 7 (.rd 8 (.rd 9 (.rd 10 (.rd 11 (.rd 12 .done))))))))))))) (by kernel_rfl) (by kernel_rfl) ?_
    refine GoR.phaseK [(0, .gen []), (1, .gen [.int .i64 r.client]), (2, .gen []), (3, .gen [])] [13, 7, 6, 5, 0, 1] [(1, [.cell ⟨b1, 0, none⟩ (.int .i64 r.client)])] [(13, .bool (decide ((r.client : Int) < 1))), (7, .bool false), (6, .pointer (some ⟨b4, 0, none⟩)), (5, .pointer (some ⟨b1, 0, none⟩)), (0, .pointer (some ⟨p, 0, none⟩)), (1, .pointer (some ⟨q, 0, none⟩))] (by kernel_rfl) rfl (ak (okc (hs6.cell 1 rfl (by kernel_rfl)) ok0) ak0) ?_
    rcases Bool.eq_false_or_eq_true (decide ((r.client : Int) < 1)) with h7 | h7
    · refine GoR.setB 13 true (by decide) (by kernel_rfl) h7 ?_
      have h7' : (r.client : Int) < 1 := of_decide_eq_true h7
      refine GoR.phaseK [(4, .gen []), (5, .gen []), (6, .gen []), (7, .gen []), (8, .gen []), (9, .gen []), (10, .gen []), (11, .gen []), (12, .gen [])] [22, 7, 6, 5, 0, 1] [] [(22, .bool true), (7, .bool false), (6, .pointer (some ⟨b4, 0, none⟩)), (5, .pointer (some ⟨b1, 0, none⟩)), (0, .pointer (some ⟨p, 0, none⟩)), (1, .pointer (some ⟨q, 0, none⟩))] (by kernel_rfl) rfl ak0 ?_
      refine GoR.done ?_
      refine GoQ.pick [22, 7, 6, 5, 0, 1] (S' := [(22, .bool true), (7, .bool false), (6, .pointer (some ⟨b4, 0, none⟩)), (5, .pointer (some ⟨b1, 0, none⟩)), (0, .pointer (some ⟨p, 0, none⟩)), (1, .pointer (some ⟨q, 0, none⟩))]) (by kernel_rfl) ?_
      exact GoQ.meet1 () (by first | rfl | (simp only [h7, Bool.not_true, Bool.not_false, Bool.true_or, Bool.false_or, Bool.true_and, Bool.false_and, Bool.or_true, Bool.or_false, Bool.and_true, Bool.and_false]; done) | (simp [h7]; done)) hs6
    · refine GoR.setB 13 false (by decide) (by kernel_rfl) h7 ?_
      have h7' : ¬ ((r.client : Int) < 1) := of_decide_eq_false h7
      refine GoR.phaseK [(4, .gen []), (5, .gen [.int .i64 r.client]), (6, .gen []), (7, .gen []), (8, .gen [])] [18, 7, 6, 5, 0, 1] [(5, [.cell ⟨b1, 0, none⟩ (.int .i64 r.client)])] [(18, .bool (decide ((r.client : Int) > 8))), (7, .bool false), (6, .pointer (some ⟨b4, 0, none⟩)), (5, .pointer (some ⟨b1, 0, none⟩)), (0, .pointer (some ⟨p, 0, none⟩)), (1, .pointer (some ⟨q, 0, none⟩))] (by kernel_rfl) rfl (ak (okc (hs6.cell 1 rfl (by kernel_rfl)) ok0) ak0) ?_
      rcases Bool.eq_false_or_eq_true (decide ((r.client : Int) > 8)) with h8 | h8
      · refine GoR.setB 18 true (by decide) (by kernel_rfl) h8 ?_
        have h8' : (r.client : Int) > 8 := of_decide_eq_true h8
        refine GoR.phaseK [(9, .gen []), (10, .gen []), (11, .gen []), (12, .gen [])] [22, 7, 6, 5, 0, 1] [] [(22, .bool true), (7, .bool false), (6, .pointer (some ⟨b4, 0, none⟩)), (5, .pointer (some ⟨b1, 0, none⟩)), (0, .pointer (some ⟨p, 0, none⟩)), (1, .pointer (some ⟨q, 0, none⟩))] (by kernel_rfl) rfl ak0 ?_
        refine GoR.done ?_
        refine GoQ.pick [22, 7, 6, 5, 0, 1] (S' := [(22, .bool true), (7, .bool false), (6, .pointer (some ⟨b4, 0, none⟩)), (5, .pointer (some ⟨b1, 0, none⟩)), (0, .pointer (some ⟨p, 0, none⟩)), (1, .pointer (some ⟨q, 0, none⟩))]) (by kernel_rfl) ?_
        exact GoQ.meet1 () (by first | rfl | (simp only [h7, h8, Bool.not_true, Bool.not_false, Bool.true_or, Bool.false_or, Bool.true_and, Bool.false_and, Bool.or_true, Bool.or_false, Bool.and_true, Bool.and_false]; done) | (simp [h7, h8]; done)) hs6
      · refine GoR.setB 18 false (by decide) (by kernel_rfl) h8 ?_
        have h8' : ¬ ((r.client : Int) > 8) := of_decide_eq_false h8
        refine GoR.phaseK [(9, .gen []), (10, .gen [.int .u64 r.time]), (11, .gen []), (12, .gen [])] [22, 7, 6, 5, 0, 1] [(10, [.cell ⟨b1, 1, none⟩ (.int .u64 r.time)])] [(22, .bool ((r.time : Int) == 0)), (7, .bool false), (6, .pointer (some ⟨b4, 0, none⟩)), (5, .pointer (some ⟨b1, 0, none⟩)), (0, .pointer (some ⟨p, 0, none⟩)), (1, .pointer (some ⟨q, 0, none⟩))] (by kernel_rfl) rfl (ak (okc (hs6.cell 1 rfl (by kernel_rfl)) ok0) ak0) ?_
        refine GoR.done ?_
        refine GoQ.pick [22, 7, 6, 5, 0, 1] (S' := [(22, .bool ((r.time : Int) == 0)), (7, .bool false), (6, .pointer (some ⟨b4, 0, none⟩)), (5, .pointer (some ⟨b1, 0, none⟩)), (0, .pointer (some ⟨p, 0, none⟩)), (1, .pointer (some ⟨q, 0, none⟩))]) (by kernel_rfl) ?_
        exact GoQ.meet1 () (by first | rfl | (simp only [h7, h8, Bool.not_true, Bool.not_false, Bool.true_or, Bool.false_or, Bool.true_and, Bool.false_and, Bool.or_true, Bool.or_false, Bool.and_true, Bool.and_false]; done) | (simp [h7, h8]; done)) hs6
  intro _ w9 hs10
  refine GoQ.thn ?_
  refine GoC.cond (t := ((decide ((r.client : Int) < 1)) || (decide ((r.client : Int) > 8))) || ((r.time : Int) == 0)) (by kernel_rfl) (fun h11 => ?_) (fun h11 => ?_)
  · refine GoC.seq ?_
    refine GoC.regT [7, 7, 7] (.rd 0 (.ef 1 (.rd 2 .done))) (by kernel_rfl) (by kernel_rfl) ?_
    refine GoR.phaseK [(0, .gen [])] [23, 7, 6, 5, 0, 1] [] [(23, .agg #[.int .i64 1, .string (⟨#[]⟩ : ByteArray)]), (7, .bool false), (6, .pointer (some ⟨b4, 0, none⟩)), (5, .pointer (some ⟨b1, 0, none⟩)), (0, .pointer (some ⟨p, 0, none⟩)), (1, .pointer (some ⟨q, 0, none⟩))] (by kernel_rfl) rfl ak0 ?_
    refine GoR.store rfl rfl (by kernel_rfl) (b := b4) (off := 0) (v := .agg #[.int .i64 1, .string (⟨#[]⟩ : ByteArray)]) (by kernel_rfl) (by kernel_rfl) (ti := Tryd.t34) (by kernel_rfl) hs10 0 rfl (by kernel_rfl) (by kernel_rfl) (Nat.le_of_ble_eq_true (by kernel_rfl)) (cs' := #[.int .i64 1, .string (⟨#[]⟩ : ByteArray)]) (L' := (Cel b4 #[.int .i64 1, .string (⟨#[]⟩ : ByteArray)] 34) :: (Cel b1 (ReqV.cells r) 27) :: (Cel p (arrCells LastV.cells tl) 76) :: (Cel q #[.slice ad l.length c] 68) :: (Sl ad c 61 2 ItemV.cells l) :: L) (by kernel_rfl) rfl ?_
    intro w12 hs13
    refine ⟨(opn (by kernel_rfl)), ?_⟩
    refine GoR.phaseK [(2, .gen [])] [7, 6, 5, 0, 1] [] [(7, .bool false), (6, .pointer (some ⟨b4, 0, none⟩)), (5, .pointer (some ⟨b1, 0, none⟩)), (0, .pointer (some ⟨p, 0, none⟩)), (1, .pointer (some ⟨q, 0, none⟩))] (by kernel_rfl) rfl ak0 ?_
    refine GoR.done (GoQ.thn (GoC.ret (GoQ.skipCR ?_)))
    refine GoQ.done (.inl rfl) (v := .tuple #[.agg #[.int .i64 1, .string (⟨#[]⟩ : ByteArray)], .bool false]) (fun a hf => resultsAV rfl (by kernel_rfl) (by kernel_rfl) (ti := Tryd.t34) (by kernel_rfl) (by kernel_rfl) (vs := #[.int .i64 1, .string (⟨#[]⟩ : ByteArray)]) (by kernel_rfl) (hs13.cells 0 0 rfl (by kernel_rfl)) a hf) ?_
    have hr : rsdo tl l r = (((⟨1, (⟨#[]⟩ : ByteArray)⟩ : RepV), false), tl, l) := by rw [rsdo, if_pos h11]
    have hs14 : St w0 ((Cel p (arrCells LastV.cells tl) 76) :: (Cel q #[.slice ad l.length c] 68) :: (Sl ad c 61 2 ItemV.cells l) :: L) w12 := hs13.drop 2
    exact ⟨ad, c, (by first | rfl | (rw [hr]; done) | (rw [hr]; rfl)), (by first | exact hs14 | (rw [hr]; exact hs14))⟩
  · have h11a : ((decide ((r.client : Int) < 1)) || (decide ((r.client : Int) > 8))) = false := (Bool.or_eq_false_iff.1 h11).1
    have h11aa : (decide ((r.client : Int) < 1)) = false := (Bool.or_eq_false_iff.1 h11a).1
    have h11aa' : ¬ ((r.client : Int) < 1) := of_decide_eq_false h11aa
    have h11ab : (decide ((r.client : Int) > 8)) = false := (Bool.or_eq_false_iff.1 h11a).2
    have h11ab' : ¬ ((r.client : Int) > 8) := of_decide_eq_false h11ab
    have h11b : ((r.time : Int) == 0) = false := (Bool.or_eq_false_iff.1 h11).2
    have h11b' : ¬ ((r.time : Int) = 0) := ieqF h11b
    refine GoC.skip (GoQ.thn (GoC.seq ?_))
    refine GoC.regD [0, 0, 2, 6, 1, 31, 63, 0, 255] (.rd 0 (.rd 1 (.rd 2 (.rd 3 (.rd 4 (.rd 5 (.rd 6 (.ef 7 (.ef 8 .done))))))))) (by kernel_rfl) (by kernel_rfl) noPan_body (by kernel_rfl) hs10 ?_
    intro w15 hs16 hw17
    refine GoR.phaseK [(0, .gen []), (1, .gen []), (2, .gen [.int .i64 r.client]), (3, .as_ (.int .i64 (r.client - 1)) (.gen [])), (4, .gen []), (5, .as_ (.pointer (some ⟨p, 0 + ((Int.toNat (r.client - 1)) * 3), none⟩)) .at_), (6, .agg (LastV.cells (tl.getD (Int.toNat (r.client - 1)) dLast)))] [30, 7, 6, 5, 0, 1] [(2, [.cell ⟨b1, 0, none⟩ (.int .i64 r.client)]), (3, [.prop (Value.int .i64 (IntKind.i64.wrap (r.client - 1)) = Value.int .i64 (r.client - 1))]), (5, [.prop (0 ≤ ((r.client - 1) : Int) ∧ ((r.client - 1) : Int) < (8 : Int)), .prop (Value.pointer (some (Addr.add ⟨p, 0, none⟩ (Int.toNat (r.client - 1) * 3))) = Value.pointer (some ⟨p, 0 + ((Int.toNat (r.client - 1)) * 3), none⟩))]), (6, [.prop (Array.size (LastV.cells (tl.getD (Int.toNat (r.client - 1)) dLast)) = 3), .cells ⟨p, 0 + ((Int.toNat (r.client - 1)) * 3), none⟩ (LastV.cells (tl.getD (Int.toNat (r.client - 1)) dLast))])] [(30, .agg (LastV.cells (tl.getD (Int.toNat (r.client - 1)) dLast))), (7, .bool false), (6, .pointer (some ⟨b4, 0, none⟩)), (5, .pointer (some ⟨b1, 0, none⟩)), (0, .pointer (some ⟨p, 0, none⟩)), (1, .pointer (some ⟨q, 0, none⟩))] (by kernel_rfl) rfl (ak (okc (hs16.cell 1 rfl (by kernel_rfl)) ok0) (ak (okp (i64ok (by omega) (by omega)) ok0) (ak (okp (by omega) (okp (ptrAdd _ _ _) ok0)) (ak (okp (by kernel_rfl) (oka (RowsAt.all0 (arr_rows hs16 2 rfl (lastF).size dLast) (by first | omega | (simp only [List.length_set]; omega)) (Nat.le_of_ble_eq_true (by kernel_rfl)) (by kernel_rfl)) ok0)) ak0)))) ?_
    refine GoR.alloc rfl rfl (by kernel_rfl) (z := .agg #[.int .u64 0, .int .i64 0, .string (⟨#[]⟩ : ByteArray)]) (by kernel_rfl) hs16 (cs := #[.int .u64 0, .int .i64 0, .string (⟨#[]⟩ : ByteArray)]) (by kernel_rfl) ?_
    intro b18 w19 hs20
    refine ⟨(opl (n := [.prop (Array.size (LastV.cells (tl.getD (Int.toNat (r.client - 1)) dLast)) = 3), .cells ⟨p, 0 + ((Int.toNat (r.client - 1)) * 3), none⟩ (LastV.cells (tl.getD (Int.toNat (r.client - 1)) dLast)), .prop (0 ≤ ((r.client - 1) : Int) ∧ ((r.client - 1) : Int) < (8 : Int)), .prop (Value.pointer (some (Addr.add ⟨p, 0, none⟩ (Int.toNat (r.client - 1) * 3))) = Value.pointer (some ⟨p, 0 + ((Int.toNat (r.client - 1)) * 3), none⟩)), .prop (Value.int .i64 (IntKind.i64.wrap (r.client - 1)) = Value.int .i64 (r.client - 1)), .cell ⟨b1, 0, none⟩ (.int .i64 r.client)]) (by kernel_rfl) (okp (by kernel_rfl) (oka (RowsAt.all0 (arr_rows hs20 3 rfl (lastF).size dLast) (by first | omega | (simp only [List.length_set]; omega)) (Nat.le_of_ble_eq_true (by kernel_rfl)) (by kernel_rfl)) (okp (by omega) (okp (ptrAdd _ _ _) (okp (i64ok (by omega) (by omega)) (okc (hs20.cell 2 rfl (by kernel_rfl)) ok0))))))), ?_⟩
    refine GoR.store rfl rfl (by kernel_rfl) (b := b18) (off := 0) (v := .agg (LastV.cells (tl.getD (Int.toNat (r.client - 1)) dLast))) (by kernel_rfl) (by kernel_rfl) (ti := Tryd.t41) (by kernel_rfl) hs20 0 rfl (by kernel_rfl) (by kernel_rfl) (Nat.le_of_ble_eq_true (by kernel_rfl)) (cs' := LastV.cells (tl.getD (Int.toNat (r.client - 1)) dLast)) (L' := (Cel b18 (LastV.cells (tl.getD (Int.toNat (r.client - 1)) dLast)) 41) :: (Cel b4 #[.int .i64 0, .string (⟨#[]⟩ : ByteArray)] 34) :: (Cel b1 (ReqV.cells r) 27) :: (Cel p (arrCells LastV.cells tl) 76) :: (Cel q #[.slice ad l.length c] 68) :: (Sl ad c 61 2 ItemV.cells l) :: L) (by kernel_rfl) rfl ?_
    intro w21 hs22
    refine ⟨(opn (by kernel_rfl)), ?_⟩
    refine GoR.done (GoQ.thn (GoC.seq (GoC.seq ?_)))
    refine GoC.regT [31, 31, 31, 31, 31] (.rd 0 (.rd 1 (.rd 2 (.rd 3 (.rd 4 .done))))) (by kernel_rfl) (by kernel_rfl) ?_
    refine GoR.phaseK [(0, .gen []), (1, .gen [.int .u64 r.time]), (2, .gen []), (3, .gen [.int .u64 ((tl.getD (Int.toNat (r.client - 1)) dLast).time)]), (4, .gen [])] [35, 8, 7, 6, 5, 0, 1] [(1, [.cell ⟨b1, 1, none⟩ (.int .u64 r.time)]), (3, [.cell ⟨b18, 0, none⟩ (.int .u64 ((tl.getD (Int.toNat (r.client - 1)) dLast).time))])] [(35, .bool (decide ((r.time : Int) < ((tl.getD (Int.toNat (r.client - 1)) dLast).time)))), (8, .pointer (some ⟨b18, 0, none⟩)), (7, .bool false), (6, .pointer (some ⟨b4, 0, none⟩)), (5, .pointer (some ⟨b1, 0, none⟩)), (0, .pointer (some ⟨p, 0, none⟩)), (1, .pointer (some ⟨q, 0, none⟩))] (by kernel_rfl) rfl (ak (okc (hs22.cell 2 rfl (by kernel_rfl)) ok0) (ak (okc (hs22.cell 0 rfl (by kernel_rfl)) ok0) ak0)) ?_
    refine GoR.done (GoQ.thn ?_)
    refine GoC.cond (t := decide ((r.time : Int) < ((tl.getD (Int.toNat (r.client - 1)) dLast).time))) (by kernel_rfl) (fun h23 => ?_) (fun h23 => ?_)
    · have h23' : (r.time : Int) < ((tl.getD (Int.toNat (r.client - 1)) dLast).time) := of_decide_eq_true h23
      refine GoC.seq ?_
      refine GoC.regT [7, 7, 7] (.rd 0 (.ef 1 (.rd 2 .done))) (by kernel_rfl) (by kernel_rfl) ?_
      refine GoR.phaseK [(0, .gen [])] [36, 8, 7, 6, 5, 0, 1] [] [(36, .agg #[.int .i64 13, .string (⟨#[]⟩ : ByteArray)]), (8, .pointer (some ⟨b18, 0, none⟩)), (7, .bool false), (6, .pointer (some ⟨b4, 0, none⟩)), (5, .pointer (some ⟨b1, 0, none⟩)), (0, .pointer (some ⟨p, 0, none⟩)), (1, .pointer (some ⟨q, 0, none⟩))] (by kernel_rfl) rfl ak0 ?_
      refine GoR.store rfl rfl (by kernel_rfl) (b := b4) (off := 0) (v := .agg #[.int .i64 13, .string (⟨#[]⟩ : ByteArray)]) (by kernel_rfl) (by kernel_rfl) (ti := Tryd.t34) (by kernel_rfl) hs22 1 rfl (by kernel_rfl) (by kernel_rfl) (Nat.le_of_ble_eq_true (by kernel_rfl)) (cs' := #[.int .i64 13, .string (⟨#[]⟩ : ByteArray)]) (L' := (Cel b18 (LastV.cells (tl.getD (Int.toNat (r.client - 1)) dLast)) 41) :: (Cel b4 #[.int .i64 13, .string (⟨#[]⟩ : ByteArray)] 34) :: (Cel b1 (ReqV.cells r) 27) :: (Cel p (arrCells LastV.cells tl) 76) :: (Cel q #[.slice ad l.length c] 68) :: (Sl ad c 61 2 ItemV.cells l) :: L) (by kernel_rfl) rfl ?_
      intro w24 hs25
      refine ⟨(opn (by kernel_rfl)), ?_⟩
      refine GoR.phaseK [(2, .gen [])] [7, 8, 6, 5, 0, 1] [] [(7, .bool false), (8, .pointer (some ⟨b18, 0, none⟩)), (6, .pointer (some ⟨b4, 0, none⟩)), (5, .pointer (some ⟨b1, 0, none⟩)), (0, .pointer (some ⟨p, 0, none⟩)), (1, .pointer (some ⟨q, 0, none⟩))] (by kernel_rfl) rfl ak0 ?_
      refine GoR.done (GoQ.thn (GoC.ret (GoQ.skipCR ?_)))
      refine GoQ.done (.inl rfl) (v := .tuple #[.agg #[.int .i64 13, .string (⟨#[]⟩ : ByteArray)], .bool false]) (fun a hf => resultsAV rfl (by kernel_rfl) (by kernel_rfl) (ti := Tryd.t34) (by kernel_rfl) (by kernel_rfl) (vs := #[.int .i64 13, .string (⟨#[]⟩ : ByteArray)]) (by kernel_rfl) (hs25.cells 1 0 rfl (by kernel_rfl)) a hf) ?_
      have hr : rsdo tl l r = (((⟨13, (⟨#[]⟩ : ByteArray)⟩ : RepV), false), tl, l) := by rw [rsdo, if_neg (ne_true_of_eq_false h11), if_pos h23]
      have hs26 : St w0 ((Cel p (arrCells LastV.cells tl) 76) :: (Cel q #[.slice ad l.length c] 68) :: (Sl ad c 61 2 ItemV.cells l) :: L) w24 := hs25.drop 3
      exact ⟨ad, c, (by first | rfl | (rw [hr]; done) | (rw [hr]; rfl)), (by first | exact hs26 | (rw [hr]; exact hs26))⟩
    · have h23' : ¬ ((r.time : Int) < ((tl.getD (Int.toNat (r.client - 1)) dLast).time)) := of_decide_eq_false h23
      refine GoC.skip (GoQ.thn (GoC.seq (GoC.seq ?_)))
      refine GoC.regT [31, 31, 31, 31, 31] (.rd 0 (.rd 1 (.rd 2 (.rd 3 (.rd 4 .done))))) (by kernel_rfl) (by kernel_rfl) ?_
      refine GoR.phaseK [(0, .gen []), (1, .gen [.int .u64 r.time]), (2, .gen []), (3, .gen [.int .u64 ((tl.getD (Int.toNat (r.client - 1)) dLast).time)]), (4, .gen [])] [41, 8, 7, 6, 5, 0, 1] [(1, [.cell ⟨b1, 1, none⟩ (.int .u64 r.time)]), (3, [.cell ⟨b18, 0, none⟩ (.int .u64 ((tl.getD (Int.toNat (r.client - 1)) dLast).time))])] [(41, .bool ((r.time : Int) == ((tl.getD (Int.toNat (r.client - 1)) dLast).time))), (8, .pointer (some ⟨b18, 0, none⟩)), (7, .bool false), (6, .pointer (some ⟨b4, 0, none⟩)), (5, .pointer (some ⟨b1, 0, none⟩)), (0, .pointer (some ⟨p, 0, none⟩)), (1, .pointer (some ⟨q, 0, none⟩))] (by kernel_rfl) rfl (ak (okc (hs22.cell 2 rfl (by kernel_rfl)) ok0) (ak (okc (hs22.cell 0 rfl (by kernel_rfl)) ok0) ak0)) ?_
      refine GoR.done (GoQ.thn ?_)
      refine GoC.cond (t := (r.time : Int) == ((tl.getD (Int.toNat (r.client - 1)) dLast).time)) (by kernel_rfl) (fun h27 => ?_) (fun h27 => ?_)
      · have h27' : (r.time : Int) = ((tl.getD (Int.toNat (r.client - 1)) dLast).time) := ieqT h27
        refine GoC.seq ?_
        refine GoC.regT [15, 15, 15, 15] (.rd 0 (.rd 1 (.ef 2 (.rd 3 .done)))) (by kernel_rfl) (by kernel_rfl) ?_
        refine GoR.phaseK [(0, .gen []), (1, .agg (RepV.cells ((tl.getD (Int.toNat (r.client - 1)) dLast).reply)))] [43, 7, 6, 5, 0, 1] [(1, [.prop (Array.size (RepV.cells ((tl.getD (Int.toNat (r.client - 1)) dLast).reply)) = 2), .cells ⟨b18, 1, none⟩ (RepV.cells ((tl.getD (Int.toNat (r.client - 1)) dLast).reply))])] [(43, .agg (RepV.cells ((tl.getD (Int.toNat (r.client - 1)) dLast).reply))), (7, .bool false), (6, .pointer (some ⟨b4, 0, none⟩)), (5, .pointer (some ⟨b1, 0, none⟩)), (0, .pointer (some ⟨p, 0, none⟩)), (1, .pointer (some ⟨q, 0, none⟩))] (by kernel_rfl) rfl (ak (okp (by kernel_rfl) (oka (hs22.cells 0 1 rfl (by kernel_rfl)) ok0)) ak0) ?_
        refine GoR.store rfl rfl (by kernel_rfl) (b := b4) (off := 0) (v := .agg (RepV.cells ((tl.getD (Int.toNat (r.client - 1)) dLast).reply))) (by kernel_rfl) (by kernel_rfl) (ti := Tryd.t34) (by kernel_rfl) hs22 1 rfl (by kernel_rfl) (by kernel_rfl) (Nat.le_of_ble_eq_true (by kernel_rfl)) (cs' := RepV.cells ((tl.getD (Int.toNat (r.client - 1)) dLast).reply)) (L' := (Cel b18 (LastV.cells (tl.getD (Int.toNat (r.client - 1)) dLast)) 41) :: (Cel b4 (RepV.cells ((tl.getD (Int.toNat (r.client - 1)) dLast).reply)) 34) :: (Cel b1 (ReqV.cells r) 27) :: (Cel p (arrCells LastV.cells tl) 76) :: (Cel q #[.slice ad l.length c] 68) :: (Sl ad c 61 2 ItemV.cells l) :: L) (by kernel_rfl) rfl ?_
        intro w28 hs29
        refine ⟨(opn (by kernel_rfl)), ?_⟩
        refine GoR.phaseK [(3, .gen [])] [7, 6, 5, 0, 1] [] [(7, .bool false), (6, .pointer (some ⟨b4, 0, none⟩)), (5, .pointer (some ⟨b1, 0, none⟩)), (0, .pointer (some ⟨p, 0, none⟩)), (1, .pointer (some ⟨q, 0, none⟩))] (by kernel_rfl) rfl ak0 ?_
        refine GoR.done (GoQ.thn (GoC.ret (GoQ.skipCR ?_)))
        refine GoQ.done (.inl rfl) (v := .tuple #[.agg (RepV.cells ((tl.getD (Int.toNat (r.client - 1)) dLast).reply)), .bool false]) (fun a hf => resultsAV rfl (by kernel_rfl) (by kernel_rfl) (ti := Tryd.t34) (by kernel_rfl) (by kernel_rfl) (vs := (RepV.cells ((tl.getD (Int.toNat (r.client - 1)) dLast).reply))) (by kernel_rfl) (hs29.cells 1 0 rfl (by kernel_rfl)) a hf) ?_
        have hr : rsdo tl l r = (((tl.getD (Int.toNat (r.client - 1)) dLast).reply, false), tl, l) := by rw [rsdo, if_neg (ne_true_of_eq_false h11), if_neg (ne_true_of_eq_false h23), if_pos h27]
        have hs30 : St w0 ((Cel p (arrCells LastV.cells tl) 76) :: (Cel q #[.slice ad l.length c] 68) :: (Sl ad c 61 2 ItemV.cells l) :: L) w28 := hs29.drop 3
        exact ⟨ad, c, (by first | rfl | (rw [hr]; done) | (rw [hr]; rfl)), (by first | exact hs30 | (rw [hr]; exact hs30))⟩
      · have h27' : ¬ ((r.time : Int) = ((tl.getD (Int.toNat (r.client - 1)) dLast).time)) := ieqF h27
        refine GoC.skip (GoQ.thn (GoC.seq ?_))
        refine GoC.regT [63, 63, 63, 63, 63, 63] (.rd 0 (.rd 1 (.rd 2 (.ef 3 (.ef 4 (.ef 5 .done)))))) (by kernel_rfl) (by kernel_rfl) ?_
        refine GoR.phaseK [(0, .gen []), (1, .gen []), (2, .agg (OpV.cells r.op))] [46, 44, 7, 6, 5, 0] [(2, [.prop (Array.size (OpV.cells r.op) = 6), .cells ⟨b1, 2, none⟩ (OpV.cells r.op)])] [(46, .agg (OpV.cells r.op)), (44, .pointer (some ⟨q, 0, none⟩)), (7, .bool false), (6, .pointer (some ⟨b4, 0, none⟩)), (5, .pointer (some ⟨b1, 0, none⟩)), (0, .pointer (some ⟨p, 0, none⟩))] (by kernel_rfl) rfl (ak (okp (by kernel_rfl) (oka (hs22.cells 2 2 rfl (by kernel_rfl)) ok0)) ak0) ?_
        have hs31 : St w0 ((Cel q #[.slice ad l.length c] 68) :: (Sl ad c 61 2 ItemV.cells l) :: (Cel b18 (LastV.cells (tl.getD (Int.toNat (r.client - 1)) dLast)) 41) :: (Cel b4 #[.int .i64 0, .string (⟨#[]⟩ : ByteArray)] 34) :: (Cel b1 (ReqV.cells r) 27) :: (Cel p (arrCells LastV.cells tl) 76) :: L) w21 := ((hs22.pull 5 rfl).pull 5 rfl)
        refine GoR.call rfl rfl (by kernel_rfl) (f := 32) (args := #[.pointer (some ⟨q, 0, none⟩), .agg (OpV.cells r.op)]) (by kernel_rfl) Tryd.call32 (rdo_spec l r.op hl hsv ha hs31) ?_
        rintro v35 w36 ⟨ad32, c33, rfl, hs34⟩
        refine ⟨(opn (by kernel_rfl)), ?_⟩
        refine GoR.alloc rfl rfl (by kernel_rfl) (z := .agg #[.int .i64 0, .string (⟨#[]⟩ : ByteArray)]) (by kernel_rfl) hs34 (cs := #[.int .i64 0, .string (⟨#[]⟩ : ByteArray)]) (by kernel_rfl) ?_
        intro b37 w38 hs39
        refine ⟨(opn (by kernel_rfl)), ?_⟩
        refine GoR.store rfl rfl (by kernel_rfl) (b := b37) (off := 0) (v := .agg (RepV.cells ((rdo l r.op).1))) (by kernel_rfl) (by kernel_rfl) (ti := Tryd.t34) (by kernel_rfl) hs39 0 rfl (by kernel_rfl) (by kernel_rfl) (Nat.le_of_ble_eq_true (by kernel_rfl)) (cs' := RepV.cells ((rdo l r.op).1)) (L' := (Cel b37 (RepV.cells ((rdo l r.op).1)) 34) :: (Cel q #[.slice ad32 (((rdo l r.op).2).length) c33] 68) :: (Sl ad32 c33 61 2 ItemV.cells ((rdo l r.op).2)) :: (Cel b18 (LastV.cells (tl.getD (Int.toNat (r.client - 1)) dLast)) 41) :: (Cel b4 #[.int .i64 0, .string (⟨#[]⟩ : ByteArray)] 34) :: (Cel b1 (ReqV.cells r) 27) :: (Cel p (arrCells LastV.cells tl) 76) :: L) (by kernel_rfl) rfl ?_
        intro w40 hs41
        refine ⟨(opn (by kernel_rfl)), ?_⟩
        refine GoR.done (GoQ.thn (GoC.seq ?_))
        refine GoC.regD [0, 0, 2, 6, 0, 16, 0, 112, 1, 511, 1023] (.rd 0 (.rd 1 (.rd 2 (.rd 3 (.rd 4 (.rd 5 (.rd 6 (.rd 7 (.rd 8 (.rd 9 (.ef 10 .done))))))))))) (by kernel_rfl) (by kernel_rfl) noPan_body (by kernel_rfl) hs41 ?_
        intro w42 hs43 hw44
        refine GoR.phaseK [(0, .gen []), (1, .gen []), (2, .gen [.int .i64 r.client]), (3, .as_ (.int .i64 (r.client - 1)) (.gen [])), (4, .gen []), (5, .gen [.int .u64 r.time]), (6, .agg (RepV.cells ((rdo l r.op).1))), (7, .gen []), (8, .gen []), (9, .as_ (.pointer (some ⟨p, 0 + ((Int.toNat (r.client - 1)) * 3), none⟩)) .at_)] [57, 55, 9, 7, 6] [(2, [.cell ⟨b1, 0, none⟩ (.int .i64 r.client)]), (3, [.prop (Value.int .i64 (IntKind.i64.wrap (r.client - 1)) = Value.int .i64 (r.client - 1))]), (5, [.cell ⟨b1, 1, none⟩ (.int .u64 r.time)]), (6, [.prop (Array.size (RepV.cells ((rdo l r.op).1)) = 2), .cells ⟨b37, 0, none⟩ (RepV.cells ((rdo l r.op).1))]), (9, [.prop (0 ≤ ((r.client - 1) : Int) ∧ ((r.client - 1) : Int) < (8 : Int)), .prop (Value.pointer (some (Addr.add ⟨p, 0, none⟩ (Int.toNat (r.client - 1) * 3))) = Value.pointer (some ⟨p, 0 + ((Int.toNat (r.client - 1)) * 3), none⟩))])] [(57, .pointer (some ⟨p, 0 + ((Int.toNat (r.client - 1)) * 3), none⟩)), (55, .agg #[.int .u64 r.time, .int .i64 (((rdo l r.op).1).err), .string (((rdo l r.op).1).value)]), (9, .pointer (some ⟨b37, 0, none⟩)), (7, .bool false), (6, .pointer (some ⟨b4, 0, none⟩))] (by kernel_rfl) rfl (ak (okc (hs43.cell 5 rfl (by kernel_rfl)) ok0) (ak (okp (i64ok (by omega) (by omega)) ok0) (ak (okc (hs43.cell 5 rfl (by kernel_rfl)) ok0) (ak (okp (by kernel_rfl) (oka (hs43.cells 0 0 rfl (by kernel_rfl)) ok0)) (ak (okp (by omega) (okp (ptrAdd _ _ _) ok0)) ak0))))) ?_
        refine GoR.store rfl rfl (by kernel_rfl) (b := p) (off := 0 + ((Int.toNat (r.client - 1)) * 3)) (v := .agg #[.int .u64 r.time, .int .i64 (((rdo l r.op).1).err), .string (((rdo l r.op).1).value)]) (by kernel_rfl) (by kernel_rfl) (ti := Tryd.t41) (by kernel_rfl) hs43 6 rfl (by kernel_rfl) (by kernel_rfl) (by rw [Nat.zero_add]; exact arr_room (f := LastV.cells) (size := 3) (l := tl) (k := (Int.toNat (r.client - 1))) (lastF).size (by first | omega | (simp only [List.length_set]; omega))) (cs' := arrCells LastV.cells (tl.set (Int.toNat (r.client - 1)) (⟨r.time, ⟨((rdo l r.op).1).err, ((rdo l r.op).1).value⟩⟩ : LastV))) (L' := (Cel b37 (RepV.cells ((rdo l r.op).1)) 34) :: (Cel q #[.slice ad32 (((rdo l r.op).2).length) c33] 68) :: (Sl ad32 c33 61 2 ItemV.cells ((rdo l r.op).2)) :: (Cel b18 (LastV.cells (tl.getD (Int.toNat (r.client - 1)) dLast)) 41) :: (Cel b4 #[.int .i64 0, .string (⟨#[]⟩ : ByteArray)] 34) :: (Cel b1 (ReqV.cells r) 27) :: (Cel p (arrCells LastV.cells (tl.set (Int.toNat (r.client - 1)) (⟨r.time, ⟨((rdo l r.op).1).err, ((rdo l r.op).1).value⟩⟩ : LastV))) 76) :: L) (by rw [Nat.zero_add]; exact splice_arr (f := LastV.cells) (size := 3) (l := tl) (k := (Int.toNat (r.client - 1))) (lastF).size (by first | omega | (simp only [List.length_set]; omega)) (⟨r.time, ⟨((rdo l r.op).1).err, ((rdo l r.op).1).value⟩⟩ : LastV)) rfl ?_
        intro w45 hs46
        refine ⟨(opn (by kernel_rfl)), ?_⟩
        refine GoR.done (GoQ.thn (GoC.seq ?_))
        refine GoC.regT [7, 7, 7] (.rd 0 (.ef 1 (.rd 2 .done))) (by kernel_rfl) (by kernel_rfl) ?_
        refine GoR.phaseK [(0, .agg (RepV.cells ((rdo l r.op).1)))] [58, 7, 6] [(0, [.prop (Array.size (RepV.cells ((rdo l r.op).1)) = 2), .cells ⟨b37, 0, none⟩ (RepV.cells ((rdo l r.op).1))])] [(58, .agg (RepV.cells ((rdo l r.op).1))), (7, .bool false), (6, .pointer (some ⟨b4, 0, none⟩))] (by kernel_rfl) rfl (ak (okp (by kernel_rfl) (oka (hs46.cells 0 0 rfl (by kernel_rfl)) ok0)) ak0) ?_
        refine GoR.store rfl rfl (by kernel_rfl) (b := b4) (off := 0) (v := .agg (RepV.cells ((rdo l r.op).1))) (by kernel_rfl) (by kernel_rfl) (ti := Tryd.t34) (by kernel_rfl) hs46 4 rfl (by kernel_rfl) (by kernel_rfl) (Nat.le_of_ble_eq_true (by kernel_rfl)) (cs' := RepV.cells ((rdo l r.op).1)) (L' := (Cel b37 (RepV.cells ((rdo l r.op).1)) 34) :: (Cel q #[.slice ad32 (((rdo l r.op).2).length) c33] 68) :: (Sl ad32 c33 61 2 ItemV.cells ((rdo l r.op).2)) :: (Cel b18 (LastV.cells (tl.getD (Int.toNat (r.client - 1)) dLast)) 41) :: (Cel b4 (RepV.cells ((rdo l r.op).1)) 34) :: (Cel b1 (ReqV.cells r) 27) :: (Cel p (arrCells LastV.cells (tl.set (Int.toNat (r.client - 1)) (⟨r.time, ⟨((rdo l r.op).1).err, ((rdo l r.op).1).value⟩⟩ : LastV))) 76) :: L) (by kernel_rfl) rfl ?_
        intro w47 hs48
        refine ⟨(opn (by kernel_rfl)), ?_⟩
        refine GoR.phaseK [(2, .gen [])] [7, 6] [] [(7, .bool true), (6, .pointer (some ⟨b4, 0, none⟩))] (by kernel_rfl) rfl ak0 ?_
        refine GoR.done (GoQ.thn (GoC.ret ?_))
        refine GoQ.done (.inl rfl) (v := .tuple #[.agg (RepV.cells ((rdo l r.op).1)), .bool true]) (fun a hf => resultsAV rfl (by kernel_rfl) (by kernel_rfl) (ti := Tryd.t34) (by kernel_rfl) (by kernel_rfl) (vs := (RepV.cells ((rdo l r.op).1))) (by kernel_rfl) (hs48.cells 4 0 rfl (by kernel_rfl)) a hf) ?_
        have hr : rsdo tl l r = (((rdo l r.op).1, true), tl.set (Int.toNat (r.client - 1)) (⟨r.time, ⟨((rdo l r.op).1).err, ((rdo l r.op).1).value⟩⟩ : LastV), (rdo l r.op).2) := by rw [rsdo, if_neg (ne_true_of_eq_false h11), if_neg (ne_true_of_eq_false h23), if_neg (ne_true_of_eq_false h27)]
        have hs49 : St w0 ((Cel b37 (RepV.cells ((rdo l r.op).1)) 34) :: (Cel b18 (LastV.cells (tl.getD (Int.toNat (r.client - 1)) dLast)) 41) :: (Cel b4 (RepV.cells ((rdo l r.op).1)) 34) :: (Cel b1 (ReqV.cells r) 27) :: (Cel p (arrCells LastV.cells (tl.set (Int.toNat (r.client - 1)) (⟨r.time, ⟨((rdo l r.op).1).err, ((rdo l r.op).1).value⟩⟩ : LastV))) 76) :: (Cel q #[.slice ad32 (((rdo l r.op).2).length) c33] 68) :: (Sl ad32 c33 61 2 ItemV.cells ((rdo l r.op).2)) :: L) w47 := (((((((hs48.pull 2 rfl).pull 2 rfl).pull 6 rfl).pull 6 rfl).pull 6 rfl).pull 6 rfl).pull 6 rfl)
        have hs50 : St w0 ((Cel p (arrCells LastV.cells (tl.set (Int.toNat (r.client - 1)) (⟨r.time, ⟨((rdo l r.op).1).err, ((rdo l r.op).1).value⟩⟩ : LastV))) 76) :: (Cel q #[.slice ad32 (((rdo l r.op).2).length) c33] 68) :: (Sl ad32 c33 61 2 ItemV.cells ((rdo l r.op).2)) :: L) w47 := hs49.drop 4
        exact ⟨ad32, c33, (by first | rfl | (rw [hr]; done) | (rw [hr]; rfl)), (by first | exact hs50 | (rw [hr]; exact hs50))⟩
theorem same10_spec {w0 w : World} {L : List Asn} {ad : Option Addr} {c : Nat} (l : List LastV) (b : List LastV) (hb : b.length = 8) (hll : l.length ≤ 1000000000000) (hr : ∀ w, St w0 L w → RowsAt w ad l.length 3 (fun k => LastV.cells (l.getD k dLast))) (hs : St w0 (L) w) : Calls Tryd.prog 37 #[.slice ad l.length c, .agg (arrCells LastV.cells b)] w (Ret fun rv w' => rv = .bool (decide (l = b)) ∧ St w0 (L) w') := by
  refine enter (args := [.slice ad l.length c, .agg (arrCells LastV.cells b)]) Tryd.func37 rfl Tryd.ntmps37 (Nat.le_of_ble_eq_true (by kernel_rfl)) ?_
  refine GoC.slots (S' := [(0, .slice ad l.length c), (1, .agg (arrCells LastV.cells b))]) rfl ?_
  refine GoC.seq ?_
  refine GoC.regT [3, 3] (.ef 0 (.rd 1 .done)) (by kernel_rfl) (by kernel_rfl) ?_
  refine GoR.box rfl rfl (by kernel_rfl) (v := .agg (arrCells LastV.cells b)) (by kernel_rfl) hs (cs := (arrCells LastV.cells b)) (by kernel_rfl) ?_
  intro b1 w2 hs3
  refine ⟨(opn (by kernel_rfl)), ?_⟩
  refine GoR.phaseK [(1, .gen [])] [4, 3, 0] [] [(4, .bool false), (3, .pointer (some ⟨b1, 0, none⟩)), (0, .slice ad l.length c)] (by kernel_rfl) rfl ak0 ?_
  refine GoR.done (GoQ.thn (GoC.seq (GoC.seq ?_)))
  refine GoC.regT [7, 7, 7] (.rd 0 (.rd 1 (.rd 2 .done))) (by kernel_rfl) (by kernel_rfl) ?_
  refine GoR.phaseK [(0, .gen []), (1, .gen []), (2, .gen [])] [8, 4, 3, 0] [] [(8, .bool (((l.length : Nat) : Int) != 8)), (4, .bool false), (3, .pointer (some ⟨b1, 0, none⟩)), (0, .slice ad l.length c)] (by kernel_rfl) rfl ak0 ?_
  refine GoR.done (GoQ.thn ?_)
  refine GoC.cond (t := ((l.length : Nat) : Int) != 8) (by kernel_rfl) (fun h4 => ?_) (fun h4 => ?_)
  · have h4' : ¬ (((l.length : Nat) : Int) = 8) := ineT h4
    refine GoC.seq ?_
    refine GoC.regT [1] (.rd 0 .done) (by kernel_rfl) (by kernel_rfl) ?_
    refine GoR.phaseK [(0, .gen [])] [4, 3, 0] [] [(4, .bool false), (3, .pointer (some ⟨b1, 0, none⟩)), (0, .slice ad l.length c)] (by kernel_rfl) rfl ak0 ?_
    refine GoR.done (GoQ.thn (GoC.ret (GoQ.skipCR ?_)))
    refine GoQ.done (.inl rfl) (v := .bool false) (fun a hf => results1 rfl (by kernel_rfl) a hf) ?_
    have hs5 : St w0 (L) w2 := hs3.drop 1
    exact ⟨(congrArg Value.bool (decide_eq_false (fun e => by have := congrArg List.length e; omega)).symm), hs5⟩
  · have h4' : ((l.length : Nat) : Int) = 8 := ineF h4
    refine GoC.skip (GoQ.thn (GoC.seq (GoC.seq ?_)))
    refine GoC.regT [1] (.rd 0 .done) (by kernel_rfl) (by kernel_rfl) ?_
    refine GoR.phaseK [(0, .gen [])] [5, 4, 3, 0] [] [(5, .int .i64 0), (4, .bool false), (3, .pointer (some ⟨b1, 0, none⟩)), (0, .slice ad l.length c)] (by kernel_rfl) rfl ak0 ?_
    refine GoR.done (GoQ.thn (GoC.block ?_))
    refine GoC.loop (T := Nat) (fun gg => [(0, .slice ad l.length c), (3, .pointer (some ⟨b1, 0, none⟩)), (5, .int .i64 (gg : Nat))]) (fun gg w => (gg ≤ l.length ∧ ∀ j, j < gg → l.getD j dLast = b.getD j dLast) ∧ St w0 ((Cel b1 (arrCells LastV.cells b) 76) :: L) w) (fun gg => l.length - gg) 0 [0, 3, 5] (by kernel_rfl) ⟨⟨Nat.zero_le _, fun j hj => absurd hj (Nat.not_lt_zero _)⟩, hs3⟩ ?_
    rintro k w6 ⟨hp0, hs7⟩
    have hp : k ≤ l.length ∧ ∀ j, j < k → l.getD j dLast = b.getD j dLast := hp0
    have hs8 : St w0 ((Cel b1 (arrCells LastV.cells b) 76) :: L) w6 := hs7
    refine GoC.slots (S' := [(0, .slice ad l.length c), (3, .pointer (some ⟨b1, 0, none⟩)), (5, .int .i64 (k : Nat))]) rfl ?_
    refine GoC.seq (GoC.seq ?_)
    refine GoC.regT [15, 15, 15, 15] (.rd 0 (.rd 1 (.rd 2 (.rd 3 .done)))) (by kernel_rfl) (by kernel_rfl) ?_
    refine GoR.phaseK [(0, .gen []), (1, .gen []), (2, .gen []), (3, .gen [])] [12, 0, 3, 5] [] [(12, .bool (decide (((k : Nat) : Int) < (l.length : Nat)))), (0, .slice ad l.length c), (3, .pointer (some ⟨b1, 0, none⟩)), (5, .int .i64 (k : Nat))] (by kernel_rfl) rfl ak0 ?_
    refine GoR.done (GoQ.thn ?_)
    refine GoC.cond (t := decide (((k : Nat) : Int) < (l.length : Nat))) (by kernel_rfl) (fun h9 => ?_) (fun h9 => ?_)
    · have h9' : ((k : Nat) : Int) < (l.length : Nat) := of_decide_eq_true h9
      have hk : k < l.length := by omega
      have hkb : k < b.length := by omega
      obtain ⟨ab10, ao11, rfl⟩ := RowsAt.isSome (hr _ (hs8.drop 1)) (by omega)
      refine GoC.skip (GoQ.thn (GoC.seq (GoC.block (GoC.seq ?_))))
      refine GoC.regD [0, 0, 3, 7, 0, 16, 48, 127] (.rd 0 (.rd 1 (.rd 2 (.rd 3 (.rd 4 (.rd 5 (.rd 6 (.rd 7 .done)))))))) (by kernel_rfl) (by kernel_rfl) noPan_body (by kernel_rfl) hs8 ?_
      intro w12 hs13 hw14
      refine GoR.phaseK [(0, .gen []), (1, .gen []), (2, .as_ (.pointer (some ⟨ab10, ao11 + (k * 3), none⟩)) .at_), (3, .agg (LastV.cells (l.getD k dLast))), (4, .gen []), (5, .as_ (.pointer (some ⟨b1, 0 + (k * 3), none⟩)) .at_), (6, .agg (LastV.cells (b.getD k dLast)))] [21, 18, 0, 3, 5] [(2, [.prop (0 ≤ ((k : Nat) : Int) ∧ ((k : Nat) : Int) < ((l.length : Nat) : Int)), .prop (Value.pointer (some (Addr.add ⟨ab10, ao11, none⟩ (Int.toNat (k : Nat) * 3))) = Value.pointer (some ⟨ab10, ao11 + (k * 3), none⟩))]), (3, [.prop (Array.size (LastV.cells (l.getD k dLast)) = 3), .cells ⟨ab10, ao11 + (k * 3), none⟩ (LastV.cells (l.getD k dLast))]), (5, [.prop (0 ≤ ((k : Nat) : Int) ∧ ((k : Nat) : Int) < (8 : Int)), .prop (Value.pointer (some (Addr.add ⟨b1, 0, none⟩ (Int.toNat (k : Nat) * 3))) = Value.pointer (some ⟨b1, 0 + (k * 3), none⟩))]), (6, [.prop (Array.size (LastV.cells (b.getD k dLast)) = 3), .cells ⟨b1, 0 + (k * 3), none⟩ (LastV.cells (b.getD k dLast))])] [(21, .agg (LastV.cells (b.getD k dLast))), (18, .agg (LastV.cells (l.getD k dLast))), (0, .slice (some ⟨ab10, ao11, none⟩) l.length c), (3, .pointer (some ⟨b1, 0, none⟩)), (5, .int .i64 (k : Nat))] (by kernel_rfl) rfl (ak (okp (by omega) (okp (ptrAdd _ _ _) ok0)) (ak (okp (by kernel_rfl) (oka (RowsAt.all0 (hr _ (hs13.drop 1)) (by first | omega | (simp only [List.length_set]; omega)) (Nat.le_of_ble_eq_true (by kernel_rfl)) (by kernel_rfl)) ok0)) (ak (okp (by omega) (okp (ptrAdd _ _ _) ok0)) (ak (okp (by kernel_rfl) (oka (RowsAt.all0 (arr_rows hs13 0 rfl (lastF).size dLast) (by first | omega | (simp only [List.length_set]; omega)) (Nat.le_of_ble_eq_true (by kernel_rfl)) (by kernel_rfl)) ok0)) ak0)))) ?_
      refine GoR.eqAgg rfl (by kernel_rfl) (b := false) (t := 41) (xs := LastV.cells (l.getD k dLast)) (ys := LastV.cells (b.getD k dLast)) (m := 3) (by kernel_rfl) (by kernel_rfl) (by decide) (by kernel_rfl) (r := !(decide ((l.getD k dLast) = (b.getD k dLast)))) (aggNe  (lastEq (l.getD k dLast) (b.getD k dLast))) ?_
      refine GoR.done (GoQ.thn ?_)
      refine GoC.cond (t := !(decide ((l.getD k dLast) = (b.getD k dLast)))) (by kernel_rfl) (fun h15 => ?_) (fun h15 => ?_)
      · have h15n : (decide ((l.getD k dLast) = (b.getD k dLast))) = false := notT h15
        have h15n' : ¬ ((l.getD k dLast) = (b.getD k dLast)) := of_decide_eq_false h15n
        refine GoC.seq ?_
        refine GoC.regT [1] (.rd 0 .done) (by kernel_rfl) (by kernel_rfl) ?_
        refine GoR.phaseK [(0, .gen [])] [4, 0, 3, 5] [] [(4, .bool false), (0, .slice (some ⟨ab10, ao11, none⟩) l.length c), (3, .pointer (some ⟨b1, 0, none⟩)), (5, .int .i64 (k : Nat))] (by kernel_rfl) rfl ak0 ?_
        refine GoR.done (GoQ.thn (GoC.ret (GoQ.blkR (GoQ.skipCR (GoQ.skipLR (GoQ.blkR (GoQ.skipCR ?_)))))))
        refine GoQ.done (.inl rfl) (v := .bool false) (fun a hf => results1 rfl (by kernel_rfl) a hf) ?_
        have hs16 : St w0 (L) w12 := hs13.drop 1
        exact ⟨(congrArg Value.bool (decide_eq_false (fun e => absurd (by rw [e]) (of_decide_eq_false h15n))).symm), hs16⟩
      · have h15n : (decide ((l.getD k dLast) = (b.getD k dLast))) = true := notF h15
        have h15n' : (l.getD k dLast) = (b.getD k dLast) := of_decide_eq_true h15n
        refine GoC.skip (GoQ.blkN (GoQ.thn ?_))
        refine GoC.regT [7, 7, 7] (.rd 0 (.rd 1 (.rd 2 .done))) (by kernel_rfl) (by kernel_rfl) ?_
        refine GoR.phaseK [(0, .gen []), (1, .as_ (.int .i64 ((k : Nat) + 1)) (.gen [])), (2, .gen [])] [5, 0, 3] [(1, [.prop (Value.int .i64 (IntKind.i64.wrap ((k : Nat) + 1)) = Value.int .i64 ((k : Nat) + 1))])] [(5, .int .i64 ((k : Nat) + 1)), (0, .slice (some ⟨ab10, ao11, none⟩) l.length c), (3, .pointer (some ⟨b1, 0, none⟩))] (by kernel_rfl) rfl (ak (okp (i64ok (by omega) (by omega)) ok0) ak0) ?_
        refine GoR.done ?_
        exact GoQ.back (k + 1) [0, 3, 5] (by kernel_rfl) (by show l.length - (k + 1) < l.length - k; omega) ⟨⟨by omega, fun j hj => (Nat.lt_succ_iff_lt_or_eq.1 hj).elim (hp.2 j) (fun e => by rw [e]; exact of_decide_eq_true h15n)⟩, hs13⟩
    · have h9' : ¬ (((k : Nat) : Int) < (l.length : Nat)) := of_decide_eq_false h9
      refine GoC.exit (GoQ.skipC (GoQ.skipL (GoQ.hit (GoQ.thn (GoC.seq ?_)))))
      refine GoC.regT [1] (.rd 0 .done) (by kernel_rfl) (by kernel_rfl) ?_
      refine GoR.phaseK [(0, .gen [])] [4] [] [(4, .bool true)] (by kernel_rfl) rfl ak0 ?_
      refine GoR.done (GoQ.thn (GoC.ret ?_))
      refine GoQ.done (.inl rfl) (v := .bool true) (fun a hf => results1 rfl (by kernel_rfl) a hf) ?_
      have hs17 : St w0 (L) w6 := hs8.drop 1
      exact ⟨(congrArg Value.bool (decide_eq_true (eq_of_getD (by omega) (fun j hj => hp.2 j (by omega)))).symm), hs17⟩
end Go.Proofs.YtkeckbgkhpaofaaDoor
