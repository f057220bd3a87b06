/-
  What is asked of ledger.Of. Conditions: none beside each theorem's own.
-/
import Derived.Test.YtkiaagddmlddpaaGreatDoorProg
import Derived.Test.YtkiaagddmlddpaaGreatDoorLawP
import Derived.Test.YtkiaagddmlddpaaGreatDoorSesE
namespace Go.Proofs.YtkiaagddmlddpaaGreatDoor
open Go.RowKit Go.Sx
set_option linter.unusedVariables false
set_option linter.unusedSimpArgs false
set_option linter.unnecessarySimpa false
set_option maxRecDepth 100000
def okItems : ByteArray → List ItemV → Bool
  | _, [] => true
  | was, x :: l => keyed x.key && valued x.value && !(slt x.key was || decide (x.key = was)) && okItems x.key l
def pairsOf (l : List ItemV) : List (ByteArray × ByteArray) := l.map fun x => (x.key, x.value)
theorem aset_new {α β : Type} [DecidableEq α] : ∀ {m : List (α × β)} {k : α} {v : β}, aget m k = none → aset m k v = m ++ [(k, v)]
  | [], _, _, _ => rfl
  | x :: m, k, v, h => by
    rw [aget_cons] at h
    split at h
    · cases h
    · rename_i hne
      rw [aset, if_neg hne, aset_new h]
      rfl
theorem pairs_new {l : List ItemV} {was key : ByteArray} (h : ∀ x ∈ l, slt was x.key = false) (hk : (slt key was || decide (key = was)) = false) : aget (pairsOf l) key = none := by
  refine aget_none_of fun x hx e => ?_
  obtain ⟨y, hy, rfl⟩ := List.mem_map.1 hx
  have h1 := h y hy
  simp only at e
  rw [Bool.or_eq_false_iff] at hk
  have h2 : slt key was = false := hk.1
  have h3 : ¬ key = was := of_decide_eq_false hk.2
  rw [e] at h1
  exact h3 (slt_total h2 h1)
theorem pairs_succ {l : List ItemV} {d : ItemV} {k : Nat} (hk : k < l.length) (h : aget (pairsOf (l.take k)) (l.getD k d).key = none) : aset (pairsOf (l.take k)) (l.getD k d).key (l.getD k d).value = pairsOf (l.take (k + 1)) := by
  rw [aset_new h, take_succ_getD (d := d) hk, pairsOf, pairsOf, List.map_append]
  rfl
theorem rise_succ {l : List ItemV} {d : ItemV} {k : Nat} {was : ByteArray} (hk : k < l.length) (h : ∀ x ∈ l.take k, slt was x.key = false) (h2 : (slt (l.getD k d).key was || decide ((l.getD k d).key = was)) = false) : ∀ x ∈ l.take (k + 1), slt (l.getD k d).key x.key = false := by
  intro x hx
  rw [take_succ_getD (d := d) hk] at hx
  rcases List.mem_append.1 hx with hx | hx
  · cases hs : slt (l.getD k d).key x.key with
    | false => rfl
    | true =>
      rw [Bool.or_eq_false_iff] at h2
      have h3 := h x hx
      cases hs2 : slt was (l.getD k d).key with
      | false => exact absurd (slt_total h2.1 hs2) (of_decide_eq_false h2.2)
      | true => have := slt_trans hs2 hs; rw [h3] at this; cases this
  · rw [List.mem_singleton.1 hx]; exact slt_irrefl _
def ofOK (l : List ItemV) : Bool := okItems ⟨#[]⟩ l && decide (l.length ≤ 64)
def ofErr (l : List ItemV) : Int := if okItems ⟨#[]⟩ l = true then 6 else 1
theorem of_spec {w0 w : World} {L : List Asn} {ad : Option Addr} {c : Nat} (l : List ItemV) (hll : l.length ≤ 1000000000000) (hr : ∀ w, St w0 L w → RowsAt w ad l.length 2 (fun k => ItemV.cells (l.getD k dItem))) (hs : St w0 (L) w) : Calls Tryz.prog 40 #[.slice ad l.length c] w (Ret fun rv w' => (∃ (p : Nat) (r : Nat), rv = .tuple #[.pointer (some ⟨p, 0, none⟩), .int .i64 0] ∧ (ofOK l) = true ∧ St w0 ((Cel p #[.map (some r)] 87) :: (MapA Value.string Value.string r (pairsOf l)) :: L) w') ∨ (rv = .tuple #[.pointer none, .int .i64 (ofErr l)] ∧ (ofOK l) = false ∧ St w0 (L) w')) := by
  refine enter (args := [.slice ad l.length c]) Tryz.func40 rfl Tryz.ntmps40 (Nat.le_of_ble_eq_true (by kernel_rfl)) ?_
  refine GoC.slots (S' := [(0, .slice ad l.length c)]) rfl ?_
  refine GoC.seq ?_
  refine GoC.regT [3, 3] (.rd 0 (.rd 1 .done)) (by kernel_rfl) (by kernel_rfl) ?_
  refine GoR.phaseK [(0, .gen []), (1, .gen [])] [3, 2, 0] [] [(3, .int .i64 0), (2, .pointer none), (0, .slice ad l.length c)] (by kernel_rfl) rfl ak0 ?_
  refine GoR.done (GoQ.thn (GoC.seq ?_))
  refine GoC.regT [3, 3] (.ef 0 (.rd 1 .done)) (by kernel_rfl) (by kernel_rfl) ?_
  refine GoR.call rfl rfl (by kernel_rfl) (f := 19) (args := #[]) (by kernel_rfl) Tryz.call19 (new_spec hs) ?_
  rintro v4 w5 ⟨p1, r2, rfl, hs3⟩
  refine ⟨(opn (by kernel_rfl)), ?_⟩
  refine GoR.phaseK [(1, .gen [])] [4, 3, 2, 0] [] [(4, .pointer (some ⟨p1, 0, none⟩)), (3, .int .i64 0), (2, .pointer none), (0, .slice ad l.length c)] (by kernel_rfl) rfl ak0 ?_
  refine GoR.done (GoQ.thn (GoC.seq ?_))
  refine GoC.regT [1] (.rd 0 .done) (by kernel_rfl) (by kernel_rfl) ?_
  refine GoR.phaseK [(0, .gen [])] [5, 4, 3, 2, 0] [] [(5, .string (⟨#[]⟩ : ByteArray)), (4, .pointer (some ⟨p1, 0, none⟩)), (3, .int .i64 0), (2, .pointer none), (0, .slice ad l.length c)] (by kernel_rfl) rfl ak0 ?_
  refine GoR.done (GoQ.thn (GoC.seq (GoC.seq ?_)))
  refine GoC.regT [7, 7, 7] (.rd 0 (.rd 1 (.rd 2 .done))) (by kernel_rfl) (by kernel_rfl) ?_
  refine GoR.phaseK [(0, .gen []), (1, .gen []), (2, .gen [])] [11, 10, 9, 5, 4, 3, 2, 0] [] [(11, .int .i64 0), (10, .int .i64 (l.length : Nat)), (9, .slice ad l.length c), (5, .string (⟨#[]⟩ : ByteArray)), (4, .pointer (some ⟨p1, 0, none⟩)), (3, .int .i64 0), (2, .pointer none), (0, .slice ad l.length c)] (by kernel_rfl) rfl ak0 ?_
  refine GoR.done (GoQ.thn (GoC.block ?_))
  refine GoC.loop (T := Nat × ByteArray) (fun gg => [(0, .slice ad l.length c), (4, .pointer (some ⟨p1, 0, none⟩)), (5, .string gg.2), (9, .slice ad l.length c), (10, .int .i64 (l.length : Nat)), (11, .int .i64 (gg.1 : Nat))]) (fun gg w => (gg.1 ≤ l.length ∧ okItems ⟨#[]⟩ l = okItems gg.2 (l.drop gg.1) ∧ ∀ x ∈ l.take gg.1, slt gg.2 x.key = false) ∧ St w0 ((Cel p1 #[.map (some r2)] 87) :: (MapA Value.string Value.string r2 (pairsOf (l.take gg.1))) :: L) w) (fun gg => l.length - gg.1) (0, ⟨#[]⟩) [0, 4, 5, 9, 10, 11] (by kernel_rfl) ⟨⟨Nat.zero_le _, rfl, fun x hx => by simp at hx⟩, hs3⟩ ?_
  rintro ⟨k, was⟩ w6 ⟨hp0, hs7⟩
  have hp : k ≤ l.length ∧ okItems ⟨#[]⟩ l = okItems was (l.drop k) ∧ ∀ x ∈ l.take k, slt was x.key = false := hp0
  have hs8 : St w0 ((Cel p1 #[.map (some r2)] 87) :: (MapA Value.string Value.string r2 (pairsOf (l.take k))) :: L) w6 := hs7
  refine GoC.slots (S' := [(0, .slice ad l.length c), (4, .pointer (some ⟨p1, 0, none⟩)), (5, .string was), (9, .slice ad l.length c), (10, .int .i64 (l.length : Nat)), (11, .int .i64 (k : Nat))]) rfl ?_
  refine GoC.seq ?_
  refine GoC.regT [1] (.rd 0 .done) (by kernel_rfl) (by kernel_rfl) ?_
  refine GoR.phaseK [(0, .gen [])] [12, 0, 4, 5, 9, 10, 11] [] [(12, .bool (decide (((k : Nat) : Int) < (l.length : Nat)))), (0, .slice ad l.length c), (4, .pointer (some ⟨p1, 0, none⟩)), (5, .string was), (9, .slice ad l.length c), (10, .int .i64 (l.length : Nat)), (11, .int .i64 (k : Nat))] (by kernel_rfl) rfl ak0 ?_
  refine GoR.done (GoQ.thn (GoC.seq ?_))
  refine GoC.cond (t := decide (((k : Nat) : Int) < (l.length : Nat))) (by kernel_rfl) (fun h9 => ?_) (fun h9 => ?_)
  · have h9' : ((k : Nat) : Int) < (l.length : Nat) := of_decide_eq_true h9
    have hk : k < l.length := by omega
    obtain ⟨ab10, ao11, rfl⟩ := RowsAt.isSome (hr _ (hs8.drop 2)) (by omega)
    refine GoC.skip (GoQ.thn (GoC.seq (GoC.block (GoC.seq ?_))))
    refine GoC.regT [15, 15, 15, 15] (.rd 0 (.rd 1 (.ef 2 (.ef 3 .done)))) (by kernel_rfl) (by kernel_rfl) ?_
    refine GoR.phaseK [(0, .as_ (.pointer (some ⟨ab10, ao11 + (k * 2), none⟩)) .at_), (1, .agg (ItemV.cells (l.getD k dItem)))] [14, 0, 4, 5, 9, 10, 11] [(0, [.prop (0 ≤ ((k : Nat) : Int) ∧ ((k : Nat) : Int) < ((l.length : Nat) : Int)), .prop (Value.pointer (some (Addr.add ⟨ab10, ao11, none⟩ (Int.toNat (k : Nat) * 2))) = Value.pointer (some ⟨ab10, ao11 + (k * 2), none⟩))]), (1, [.prop (Array.size (ItemV.cells (l.getD k dItem)) = 2), .cells ⟨ab10, ao11 + (k * 2), none⟩ (ItemV.cells (l.getD k dItem))])] [(14, .agg (ItemV.cells (l.getD k dItem))), (0, .slice (some ⟨ab10, ao11, none⟩) l.length c), (4, .pointer (some ⟨p1, 0, none⟩)), (5, .string was), (9, .slice (some ⟨ab10, ao11, none⟩) l.length c), (10, .int .i64 (l.length : Nat)), (11, .int .i64 (k : Nat))] (by kernel_rfl) rfl (ak (okp (by omega) (okp (ptrAdd _ _ _) ok0)) (ak (okp (by kernel_rfl) (oka (RowsAt.all0 (hr _ (hs8.drop 2)) (by first | omega | (simp only [List.length_set]; omega) | (simp only [List.length_set, List.length_append, List.length_cons, List.length_nil]; omega)) (Nat.le_of_ble_eq_true (by kernel_rfl)) (by kernel_rfl)) ok0)) ak0)) ?_
    refine GoR.alloc rfl rfl (by kernel_rfl) (z := .agg #[.string (⟨#[]⟩ : ByteArray), .string (⟨#[]⟩ : ByteArray)]) (by kernel_rfl) hs8 (cs := #[.string (⟨#[]⟩ : ByteArray), .string (⟨#[]⟩ : ByteArray)]) (by kernel_rfl) ?_
    intro b12 w13 hs14
    refine ⟨(opn (by kernel_rfl)), ?_⟩
    refine GoR.store rfl rfl (by kernel_rfl) (b := b12) (off := 0) (v := .agg (ItemV.cells (l.getD k dItem))) (by kernel_rfl) (by kernel_rfl) (ti := Tryz.t84) (by kernel_rfl) hs14 0 rfl (by kernel_rfl) (by kernel_rfl) (Nat.le_of_ble_eq_true (by kernel_rfl)) (cs' := ItemV.cells (l.getD k dItem)) (L' := (Cel b12 (ItemV.cells (l.getD k dItem)) 84) :: (Cel p1 #[.map (some r2)] 87) :: (MapA Value.string Value.string r2 (pairsOf (l.take k))) :: L) (by kernel_rfl) rfl ?_
    intro w15 hs16
    refine ⟨(opn (by kernel_rfl)), ?_⟩
    refine GoR.done (GoQ.thn (GoC.seq (GoC.seq ?_)))
    refine GoC.regT [65535, 65535, 65535, 65535, 65535, 65535, 65535, 65535, 65535, 65535, 65535, 65535, 65535, 65535, 65535, 65535] (.rd 0 (.rd 1 (.ef 2 (.rd 3 (.rd 4 (.rd 5 (.rd 6 (.ef 7 (.rd 8 (.rd 9 (.rd 10 (.rd 11 (.rd 12 (.rd 13 (.rd 14 (.rd 15 .done)))))))))))))))) (by kernel_rfl) (by kernel_rfl) ?_
    refine GoR.phaseK [(0, .gen []), (1, .gen [.string ((l.getD k dItem).key)])] [16, 7, 0, 4, 5, 9, 10, 11] [(1, [.cell ⟨b12, 0, none⟩ (.string ((l.getD k dItem).key))])] [(16, .string ((l.getD k dItem).key)), (7, .pointer (some ⟨b12, 0, none⟩)), (0, .slice (some ⟨ab10, ao11, none⟩) l.length c), (4, .pointer (some ⟨p1, 0, none⟩)), (5, .string was), (9, .slice (some ⟨ab10, ao11, none⟩) l.length c), (10, .int .i64 (l.length : Nat)), (11, .int .i64 (k : Nat))] (by kernel_rfl) rfl (ak (okc (hs16.cell 0 rfl (by kernel_rfl)) ok0) ak0) ?_
    refine GoR.call rfl rfl (by kernel_rfl) (f := 58) (args := #[.string ((l.getD k dItem).key)]) (by kernel_rfl) Tryz.call58 (keyed_spec ((l.getD k dItem).key)  hs16) ?_
    rintro v18 w19 ⟨rfl, hs17⟩
    refine ⟨(opn (by kernel_rfl)), ?_⟩
    refine GoR.phaseK [(3, .gen []), (4, .gen [])] [19, 7, 0, 4, 5, 9, 10, 11] [] [(19, .bool (!(keyed ((l.getD k dItem).key)))), (7, .pointer (some ⟨b12, 0, none⟩)), (0, .slice (some ⟨ab10, ao11, none⟩) l.length c), (4, .pointer (some ⟨p1, 0, none⟩)), (5, .string was), (9, .slice (some ⟨ab10, ao11, none⟩) l.length c), (10, .int .i64 (l.length : Nat)), (11, .int .i64 (k : Nat))] (by kernel_rfl) rfl ak0 ?_
    rcases Bool.eq_false_or_eq_true (!(keyed ((l.getD k dItem).key))) with h20 | h20
    · refine GoR.setB 19 true (by decide) (by kernel_rfl) h20 ?_
      have h20n : (keyed ((l.getD k dItem).key)) = false := notT h20
      refine GoR.phaseK [(5, .gen []), (6, .gen [])] [21, 19, 7, 0, 4, 5, 9, 10, 11] [] [(21, undef), (19, .bool true), (7, .pointer (some ⟨b12, 0, none⟩)), (0, .slice (some ⟨ab10, ao11, none⟩) l.length c), (4, .pointer (some ⟨p1, 0, none⟩)), (5, .string was), (9, .slice (some ⟨ab10, ao11, none⟩) l.length c), (10, .int .i64 (l.length : Nat)), (11, .int .i64 (k : Nat))] (by kernel_rfl) rfl ak0 ?_
      refine GoR.skip rfl (by kernel_rfl) (opn (by kernel_rfl)) ?_
      refine GoR.phaseK [(8, .gen []), (9, .gen []), (10, .gen []), (11, .gen []), (12, .gen []), (13, .gen []), (14, .gen []), (15, .gen [])] [30, 7, 0, 4, 5, 9, 10, 11] [] [(30, .bool true), (7, .pointer (some ⟨b12, 0, none⟩)), (0, .slice (some ⟨ab10, ao11, none⟩) l.length c), (4, .pointer (some ⟨p1, 0, none⟩)), (5, .string was), (9, .slice (some ⟨ab10, ao11, none⟩) l.length c), (10, .int .i64 (l.length : Nat)), (11, .int .i64 (k : Nat))] (by kernel_rfl) rfl ak0 ?_
      refine GoR.done (GoQ.thn (GoC.condT (by kernel_rfl) (GoC.seq ?_)))
      refine GoC.regT [3, 3] (.rd 0 (.rd 1 .done)) (by kernel_rfl) (by kernel_rfl) ?_
      refine GoR.phaseK [(0, .gen []), (1, .gen [])] [3, 2, 7, 0, 4, 5, 9, 10, 11] [] [(3, .int .i64 1), (2, .pointer none), (7, .pointer (some ⟨b12, 0, none⟩)), (0, .slice (some ⟨ab10, ao11, none⟩) l.length c), (4, .pointer (some ⟨p1, 0, none⟩)), (5, .string was), (9, .slice (some ⟨ab10, ao11, none⟩) l.length c), (10, .int .i64 (l.length : Nat)), (11, .int .i64 (k : Nat))] (by kernel_rfl) rfl ak0 ?_
      refine GoR.done (GoQ.thn (GoC.ret (GoQ.skipCR (GoQ.blkR (GoQ.skipCR (GoQ.skipLR (GoQ.blkR (GoQ.skipCR ?_))))))))
      refine GoQ.done (.inl rfl) (v := .tuple #[.pointer none, .int .i64 1]) (fun a hf => results2 rfl (by kernel_rfl) (by kernel_rfl) a hf) ?_
      have hbad : okItems ⟨#[]⟩ l = false := by rw [hp.2.1, drop_getD (d := dItem) hk, okItems]; simp only [h20n, Bool.and_false, Bool.false_and, Bool.not_true, Bool.true_and, Bool.not_false]
      have hs21 : St w0 (L) w19 := hs17.drop 3
      exact .inr (⟨(by rw [show ofErr l = 1 by rw [ofErr, if_neg (ne_true_of_eq_false hbad)]]), (by rw [ofOK, hbad]; rfl), hs21⟩)
    · refine GoR.setB 19 false (by decide) (by kernel_rfl) h20 ?_
      have h20n : (keyed ((l.getD k dItem).key)) = true := notF h20
      refine GoR.phaseK [(5, .gen []), (6, .gen [.string ((l.getD k dItem).value)])] [21, 19, 7, 0, 4, 5, 9, 10, 11] [(6, [.cell ⟨b12, 1, none⟩ (.string ((l.getD k dItem).value))])] [(21, .string ((l.getD k dItem).value)), (19, .bool false), (7, .pointer (some ⟨b12, 0, none⟩)), (0, .slice (some ⟨ab10, ao11, none⟩) l.length c), (4, .pointer (some ⟨p1, 0, none⟩)), (5, .string was), (9, .slice (some ⟨ab10, ao11, none⟩) l.length c), (10, .int .i64 (l.length : Nat)), (11, .int .i64 (k : Nat))] (by kernel_rfl) rfl (ak (okc (hs17.cell 0 rfl (by kernel_rfl)) ok0) ak0) ?_
      refine GoR.call rfl rfl (by kernel_rfl) (f := 59) (args := #[.string ((l.getD k dItem).value)]) (by kernel_rfl) Tryz.call59 (valued_spec ((l.getD k dItem).value)  hs17) ?_
      rintro v23 w24 ⟨rfl, hs22⟩
      refine ⟨(opn (by kernel_rfl)), ?_⟩
      refine GoR.phaseK [(8, .gen []), (9, .gen []), (10, .gen [])] [25, 7, 0, 4, 5, 9, 10, 11] [] [(25, .bool (!(valued ((l.getD k dItem).value)))), (7, .pointer (some ⟨b12, 0, none⟩)), (0, .slice (some ⟨ab10, ao11, none⟩) l.length c), (4, .pointer (some ⟨p1, 0, none⟩)), (5, .string was), (9, .slice (some ⟨ab10, ao11, none⟩) l.length c), (10, .int .i64 (l.length : Nat)), (11, .int .i64 (k : Nat))] (by kernel_rfl) rfl ak0 ?_
      rcases Bool.eq_false_or_eq_true (!(valued ((l.getD k dItem).value))) with h25 | h25
      · refine GoR.setB 25 true (by decide) (by kernel_rfl) h25 ?_
        have h25n : (valued ((l.getD k dItem).value)) = false := notT h25
        refine GoR.phaseK [(11, .gen []), (12, .gen []), (13, .gen []), (14, .gen []), (15, .gen [])] [30, 7, 0, 4, 5, 9, 10, 11] [] [(30, .bool true), (7, .pointer (some ⟨b12, 0, none⟩)), (0, .slice (some ⟨ab10, ao11, none⟩) l.length c), (4, .pointer (some ⟨p1, 0, none⟩)), (5, .string was), (9, .slice (some ⟨ab10, ao11, none⟩) l.length c), (10, .int .i64 (l.length : Nat)), (11, .int .i64 (k : Nat))] (by kernel_rfl) rfl ak0 ?_
        refine GoR.done (GoQ.thn (GoC.condT (by kernel_rfl) (GoC.seq ?_)))
        refine GoC.regT [3, 3] (.rd 0 (.rd 1 .done)) (by kernel_rfl) (by kernel_rfl) ?_
        refine GoR.phaseK [(0, .gen []), (1, .gen [])] [3, 2, 7, 0, 4, 5, 9, 10, 11] [] [(3, .int .i64 1), (2, .pointer none), (7, .pointer (some ⟨b12, 0, none⟩)), (0, .slice (some ⟨ab10, ao11, none⟩) l.length c), (4, .pointer (some ⟨p1, 0, none⟩)), (5, .string was), (9, .slice (some ⟨ab10, ao11, none⟩) l.length c), (10, .int .i64 (l.length : Nat)), (11, .int .i64 (k : Nat))] (by kernel_rfl) rfl ak0 ?_
        refine GoR.done (GoQ.thn (GoC.ret (GoQ.skipCR (GoQ.blkR (GoQ.skipCR (GoQ.skipLR (GoQ.blkR (GoQ.skipCR ?_))))))))
        refine GoQ.done (.inl rfl) (v := .tuple #[.pointer none, .int .i64 1]) (fun a hf => results2 rfl (by kernel_rfl) (by kernel_rfl) a hf) ?_
        have hbad : okItems ⟨#[]⟩ l = false := by rw [hp.2.1, drop_getD (d := dItem) hk, okItems]; simp only [h20n, h25n, Bool.and_false, Bool.false_and, Bool.not_true, Bool.true_and, Bool.not_false]
        have hs26 : St w0 (L) w24 := hs22.drop 3
        exact .inr (⟨(by rw [show ofErr l = 1 by rw [ofErr, if_neg (ne_true_of_eq_false hbad)]]), (by rw [ofOK, hbad]; rfl), hs26⟩)
      · refine GoR.setB 25 false (by decide) (by kernel_rfl) h25 ?_
        have h25n : (valued ((l.getD k dItem).value)) = true := notF h25
        refine GoR.phaseK [(11, .gen []), (12, .gen [.string ((l.getD k dItem).key)]), (13, .gen []), (14, .as_ (.bool (slt ((l.getD k dItem).key) was || decide (((l.getD k dItem).key) = was))) (.gen [])), (15, .gen [])] [30, 7, 0, 4, 5, 9, 10, 11] [(12, [.cell ⟨b12, 0, none⟩ (.string ((l.getD k dItem).key))]), (14, [.prop (Value.bool (Op.bytesLess ((l.getD k dItem).key).toList was.toList || (((l.getD k dItem).key).toList == was.toList)) = Value.bool (slt ((l.getD k dItem).key) was || decide (((l.getD k dItem).key) = was)))])] [(30, .bool (slt ((l.getD k dItem).key) was || decide (((l.getD k dItem).key) = was))), (7, .pointer (some ⟨b12, 0, none⟩)), (0, .slice (some ⟨ab10, ao11, none⟩) l.length c), (4, .pointer (some ⟨p1, 0, none⟩)), (5, .string was), (9, .slice (some ⟨ab10, ao11, none⟩) l.length c), (10, .int .i64 (l.length : Nat)), (11, .int .i64 (k : Nat))] (by kernel_rfl) rfl (ak (okc (hs22.cell 0 rfl (by kernel_rfl)) ok0) (ak (okp (sle _ _) ok0) ak0)) ?_
        refine GoR.done (GoQ.thn ?_)
        refine GoC.cond (t := slt ((l.getD k dItem).key) was || decide (((l.getD k dItem).key) = was)) (by kernel_rfl) (fun h27 => ?_) (fun h27 => ?_)
        · refine GoC.seq ?_
          refine GoC.regT [3, 3] (.rd 0 (.rd 1 .done)) (by kernel_rfl) (by kernel_rfl) ?_
          refine GoR.phaseK [(0, .gen []), (1, .gen [])] [3, 2, 7, 0, 4, 5, 9, 10, 11] [] [(3, .int .i64 1), (2, .pointer none), (7, .pointer (some ⟨b12, 0, none⟩)), (0, .slice (some ⟨ab10, ao11, none⟩) l.length c), (4, .pointer (some ⟨p1, 0, none⟩)), (5, .string was), (9, .slice (some ⟨ab10, ao11, none⟩) l.length c), (10, .int .i64 (l.length : Nat)), (11, .int .i64 (k : Nat))] (by kernel_rfl) rfl ak0 ?_
          refine GoR.done (GoQ.thn (GoC.ret (GoQ.skipCR (GoQ.blkR (GoQ.skipCR (GoQ.skipLR (GoQ.blkR (GoQ.skipCR ?_))))))))
          refine GoQ.done (.inl rfl) (v := .tuple #[.pointer none, .int .i64 1]) (fun a hf => results2 rfl (by kernel_rfl) (by kernel_rfl) a hf) ?_
          have hbad : okItems ⟨#[]⟩ l = false := by rw [hp.2.1, drop_getD (d := dItem) hk, okItems]; simp only [h20n, h25n, h27, Bool.and_false, Bool.false_and, Bool.not_true, Bool.true_and, Bool.not_false]
          have hs28 : St w0 (L) w24 := hs22.drop 3
          exact .inr (⟨(by rw [show ofErr l = 1 by rw [ofErr, if_neg (ne_true_of_eq_false hbad)]]), (by rw [ofOK, hbad]; rfl), hs28⟩)
        · have h27a : (slt ((l.getD k dItem).key) was) = false := (Bool.or_eq_false_iff.1 h27).1
          have h27b : (decide (((l.getD k dItem).key) = was)) = false := (Bool.or_eq_false_iff.1 h27).2
          have h27b' : ¬ (((l.getD k dItem).key) = was) := of_decide_eq_false h27b
          refine GoC.skip (GoQ.thn ?_)
          refine GoC.regD [0, 1, 3, 7, 0, 16, 0, 64, 0, 256, 63, 1087, 3327, 8191] (.rd 0 (.rd 1 (.rd 2 (.rd 3 (.rd 4 (.rd 5 (.rd 6 (.rd 7 (.rd 8 (.rd 9 (.ef 10 (.rd 11 (.ef 12 (.rd 13 .done)))))))))))))) (by kernel_rfl) (by kernel_rfl) noPan_body (by kernel_rfl) hs22 ?_
          intro w29 hs30 hw31
          refine GoR.phaseK [(0, .gen []), (1, .gen []), (2, .gen []), (3, .gen [.map (some r2)]), (4, .gen []), (5, .gen [.string ((l.getD k dItem).key)]), (6, .gen []), (7, .gen [.string ((l.getD k dItem).value)]), (8, .gen []), (9, .gen [.string ((l.getD k dItem).key)])] [40, 38, 36, 34, 0, 4, 5, 9, 10, 11] [(3, [.cell ⟨p1, 0, none⟩ (.map (some r2))]), (5, [.cell ⟨b12, 0, none⟩ (.string ((l.getD k dItem).key))]), (7, [.cell ⟨b12, 1, none⟩ (.string ((l.getD k dItem).value))]), (9, [.cell ⟨b12, 0, none⟩ (.string ((l.getD k dItem).key))])] [(40, .string ((l.getD k dItem).key)), (38, .string ((l.getD k dItem).value)), (36, .string ((l.getD k dItem).key)), (34, .map (some r2)), (0, .slice (some ⟨ab10, ao11, none⟩) l.length c), (4, .pointer (some ⟨p1, 0, none⟩)), (5, .string was), (9, .slice (some ⟨ab10, ao11, none⟩) l.length c), (10, .int .i64 (l.length : Nat)), (11, .int .i64 (k : Nat))] (by kernel_rfl) rfl (ak (okc (hs30.cell 1 rfl (by kernel_rfl)) ok0) (ak (okc (hs30.cell 0 rfl (by kernel_rfl)) ok0) (ak (okc (hs30.cell 0 rfl (by kernel_rfl)) ok0) (ak (okc (hs30.cell 0 rfl (by kernel_rfl)) ok0) ak0)))) ?_
          refine GoR.mapEntry rfl (by kernel_rfl) mapLaw (z := (⟨#[]⟩ : ByteArray)) (by kernel_rfl) (r := r2) (k := (l.getD k dItem).key) (by kernel_rfl) hs30 2 rfl ?_
          intro s34 w32 hs33
          refine ⟨(opl (n := [.cell ⟨b12, 0, none⟩ (.string ((l.getD k dItem).key)), .cell ⟨b12, 1, none⟩ (.string ((l.getD k dItem).value))]) (by kernel_rfl) (okc (hs33.cell 1 rfl (by kernel_rfl)) (okc (hs33.cell 1 rfl (by kernel_rfl)) ok0))), ?_⟩
          refine GoR.phaseK [(11, .gen [])] [42, 40, 38, 34, 0, 4, 5, 9, 10, 11] [] [(42, .int .i64 (s34 : Nat)), (40, .string ((l.getD k dItem).key)), (38, .string ((l.getD k dItem).value)), (34, .map (some r2)), (0, .slice (some ⟨ab10, ao11, none⟩) l.length c), (4, .pointer (some ⟨p1, 0, none⟩)), (5, .string was), (9, .slice (some ⟨ab10, ao11, none⟩) l.length c), (10, .int .i64 (l.length : Nat)), (11, .int .i64 (k : Nat))] (by kernel_rfl) rfl ak0 ?_
          refine GoR.entryStore (ek := Value.string) (ev := Value.string) rfl (by kernel_rfl) (r := r2) (s := s34) (k := (l.getD k dItem).key) (v := (l.getD k dItem).value) (by kernel_rfl) hs33 0 rfl ?_
          intro w35 hs36
          rw [aset_same] at hs36
          refine ⟨(opl (n := [.cell ⟨b12, 0, none⟩ (.string ((l.getD k dItem).key))]) (by kernel_rfl) (okc (hs36.cell 1 rfl (by kernel_rfl)) ok0)), ?_⟩
          refine GoR.phaseK [(13, .gen [])] [5, 0, 4, 9, 10, 11] [] [(5, .string ((l.getD k dItem).key)), (0, .slice (some ⟨ab10, ao11, none⟩) l.length c), (4, .pointer (some ⟨p1, 0, none⟩)), (9, .slice (some ⟨ab10, ao11, none⟩) l.length c), (10, .int .i64 (l.length : Nat)), (11, .int .i64 (k : Nat))] (by kernel_rfl) rfl ak0 ?_
          refine GoR.done (GoQ.blkN (GoQ.thn ?_))
          refine GoC.regT [3, 3] (.rd 0 (.rd 1 .done)) (by kernel_rfl) (by kernel_rfl) ?_
          refine GoR.phaseK [(0, .as_ (.int .i64 ((k : Nat) + 1)) (.gen [])), (1, .gen [])] [11, 5, 0, 4, 9, 10] [(0, [.prop (Value.int .i64 (IntKind.i64.wrap ((k : Nat) + 1)) = Value.int .i64 ((k : Nat) + 1))])] [(11, .int .i64 ((k : Nat) + 1)), (5, .string ((l.getD k dItem).key)), (0, .slice (some ⟨ab10, ao11, none⟩) l.length c), (4, .pointer (some ⟨p1, 0, none⟩)), (9, .slice (some ⟨ab10, ao11, none⟩) l.length c), (10, .int .i64 (l.length : Nat))] (by kernel_rfl) rfl (ak (okp (i64ok (by omega) (by omega)) ok0) ak0) ?_
          refine GoR.done ?_
          rw [pairs_succ hk (pairs_new hp.2.2 h27)] at hs36
          have hs37 : St w0 ((Cel b12 (ItemV.cells (l.getD k dItem)) 84) :: (Cel p1 #[.map (some r2)] 87) :: (MapA Value.string Value.string r2 (pairsOf (l.take (k + 1)))) :: L) w35 := (((hs36.pull 0 rfl).pull 2 rfl).pull 2 rfl)
          have hs38 : St w0 ((Cel p1 #[.map (some r2)] 87) :: (MapA Value.string Value.string r2 (pairsOf (l.take (k + 1)))) :: L) w35 := hs37.drop 1
          exact GoQ.back (k + 1, (l.getD k dItem).key) [0, 4, 5, 9, 10, 11] (by kernel_rfl) (by show l.length - (k + 1) < l.length - k; omega) ⟨⟨by omega, by rw [hp.2.1, drop_getD (d := dItem) hk, okItems]; simp only [h20n, h25n, h27, Bool.and_true, Bool.true_and, Bool.not_false], rise_succ hk hp.2.2 h27⟩, hs38⟩
  · have h9' : ¬ (((k : Nat) : Int) < (l.length : Nat)) := of_decide_eq_false h9
    have hall : l.take k = l := List.take_of_length_le (by omega)
    have hok : okItems ⟨#[]⟩ l = true := by rw [hp.2.1, List.drop_eq_nil_of_le (by omega)]; rfl
    rw [hall] at hs8
    refine GoC.exit (GoQ.skipC (GoQ.skipL (GoQ.hit (GoQ.thn (GoC.seq (GoC.seq ?_))))))
    refine GoC.regT [7, 7, 7] (.rd 0 (.rd 1 (.rd 2 .done))) (by kernel_rfl) (by kernel_rfl) ?_
    refine GoR.phaseK [(0, .gen []), (1, .gen []), (2, .gen [])] [46, 4] [] [(46, .bool (decide (((l.length : Nat) : Int) > 64))), (4, .pointer (some ⟨p1, 0, none⟩))] (by kernel_rfl) rfl ak0 ?_
    refine GoR.done (GoQ.thn ?_)
    refine GoC.cond (t := decide (((l.length : Nat) : Int) > 64)) (by kernel_rfl) (fun h39 => ?_) (fun h39 => ?_)
    · have h39' : ((l.length : Nat) : Int) > 64 := of_decide_eq_true h39
      refine GoC.seq ?_
      refine GoC.regT [3, 3] (.rd 0 (.rd 1 .done)) (by kernel_rfl) (by kernel_rfl) ?_
      refine GoR.phaseK [(0, .gen []), (1, .gen [])] [3, 2, 4] [] [(3, .int .i64 6), (2, .pointer none), (4, .pointer (some ⟨p1, 0, none⟩))] (by kernel_rfl) rfl ak0 ?_
      refine GoR.done (GoQ.thn (GoC.ret (GoQ.skipCR ?_)))
      refine GoQ.done (.inl rfl) (v := .tuple #[.pointer none, .int .i64 6]) (fun a hf => results2 rfl (by kernel_rfl) (by kernel_rfl) a hf) ?_
      have hs40 : St w0 (L) w6 := hs8.drop 2
      exact .inr (⟨(by rw [show ofErr l = 6 by rw [ofErr, if_pos hok]]), (by rw [ofOK, hok, decide_eq_false (by omega)]; rfl), hs40⟩)
    · have h39' : ¬ (((l.length : Nat) : Int) > 64) := of_decide_eq_false h39
      refine GoC.skip (GoQ.thn (GoC.seq ?_))
      refine GoC.regT [7, 7, 7] (.rd 0 (.rd 1 (.rd 2 .done))) (by kernel_rfl) (by kernel_rfl) ?_
      refine GoR.phaseK [(0, .gen []), (1, .gen []), (2, .gen [])] [3, 2] [] [(3, .int .i64 0), (2, .pointer (some ⟨p1, 0, none⟩))] (by kernel_rfl) rfl ak0 ?_
      refine GoR.done (GoQ.thn (GoC.ret ?_))
      refine GoQ.done (.inl rfl) (v := .tuple #[.pointer (some ⟨p1, 0, none⟩), .int .i64 0]) (fun a hf => results2 rfl (by kernel_rfl) (by kernel_rfl) a hf) ?_
      exact .inl ⟨p1, r2, rfl, (by rw [ofOK, hok, decide_eq_true (by omega)]; rfl), hs8⟩
end Go.Proofs.YtkiaagddmlddpaaGreatDoor
