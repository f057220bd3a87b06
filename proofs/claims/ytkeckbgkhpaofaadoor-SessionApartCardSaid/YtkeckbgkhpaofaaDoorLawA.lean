/-
  What the laws of layer 9 ask: Same, get, others, Digits, Number.
-/
import Derived.Test.YtkeckbgkhpaofaaDoorProg
import Derived.Test.YtkeckbgkhpaofaaDoorLawP
namespace Go.Proofs.YtkeckbgkhpaofaaDoor
open Go.RowKit Go.Sx
set_option linter.unusedVariables false
set_option linter.unusedSimpArgs false
set_option linter.unnecessarySimpa false
set_option maxRecDepth 100000
theorem same_end {α : Type} {a b : List α} {k : Nat} (h1 : a.length ≤ k) (h2 : b.length ≤ k) (h : a.take k = b.take k) : a = b := by
  rw [List.take_of_length_le h1, List.take_of_length_le h2] at h
  exact h
theorem same_spec {w0 w : World} {L : List Asn} {ad1 : Option Addr} {ad2 : Option Addr} {c1 : Nat} {c2 : Nat} (a : List ItemV) (b : List ItemV) (hla : a.length ≤ 1000000000000) (hlb : b.length ≤ 1000000000000) (hr1 : ∀ w, St w0 L w → RowsAt w ad1 a.length 2 (fun k => ItemV.cells (a.getD k dItem))) (hr2 : ∀ w, St w0 L w → RowsAt w ad2 b.length 2 (fun k => ItemV.cells (b.getD k dItem))) (hs : St w0 (L) w) : Calls Tryd.prog 25 #[.slice ad1 a.length c1, .slice ad2 b.length c2] w (Ret fun rv w' => rv = .bool (decide (a = b)) ∧ St w0 (L) w') := by
  refine enter (args := [.slice ad1 a.length c1, .slice ad2 b.length c2]) Tryd.func25 rfl Tryd.ntmps25 (Nat.le_of_ble_eq_true (by kernel_rfl)) ?_
  refine GoC.slots (S' := [(0, .slice ad1 a.length c1), (1, .slice ad2 b.length c2)]) rfl ?_
  refine GoC.seq ?_
  refine GoC.regT [1] (.rd 0 .done) (by kernel_rfl) (by kernel_rfl) ?_
  refine GoR.phaseK [(0, .gen [])] [4, 0, 1] [] [(4, .bool false), (0, .slice ad1 a.length c1), (1, .slice ad2 b.length c2)] (by kernel_rfl) rfl ak0 ?_
  refine GoR.done (GoQ.thn (GoC.seq (GoC.seq ?_)))
  refine GoC.regT [31, 31, 31, 31, 31] (.rd 0 (.rd 1 (.rd 2 (.rd 3 (.rd 4 .done))))) (by kernel_rfl) (by kernel_rfl) ?_
  refine GoR.phaseK [(0, .gen []), (1, .gen []), (2, .gen []), (3, .gen []), (4, .gen [])] [10, 4, 0, 1] [] [(10, .bool (((a.length : Nat) : Int) != (b.length : Nat))), (4, .bool false), (0, .slice ad1 a.length c1), (1, .slice ad2 b.length c2)] (by kernel_rfl) rfl ak0 ?_
  refine GoR.done (GoQ.thn ?_)
  refine GoC.cond (t := ((a.length : Nat) : Int) != (b.length : Nat)) (by kernel_rfl) (fun h1 => ?_) (fun h1 => ?_)
  · have h1' : ¬ (((a.length : Nat) : Int) = (b.length : Nat)) := ineT h1
    refine GoC.seq ?_
    refine GoC.regT [1] (.rd 0 .done) (by kernel_rfl) (by kernel_rfl) ?_
    refine GoR.phaseK [(0, .gen [])] [4, 0, 1] [] [(4, .bool false), (0, .slice ad1 a.length c1), (1, .slice ad2 b.length c2)] (by kernel_rfl) rfl ak0 ?_
    refine GoR.done (GoQ.thn (GoC.ret (GoQ.skipCR ?_)))
    refine GoQ.done (.inl rfl) (v := .bool false) (fun a hf => results1 rfl (by kernel_rfl) a hf) ?_
    exact ⟨(congrArg Value.bool (decide_eq_false (fun e => by subst e; omega)).symm), hs⟩
  · have h1' : ((a.length : Nat) : Int) = (b.length : Nat) := ineF h1
    refine GoC.skip (GoQ.thn (GoC.seq (GoC.seq ?_)))
    refine GoC.regT [1] (.rd 0 .done) (by kernel_rfl) (by kernel_rfl) ?_
    refine GoR.phaseK [(0, .gen [])] [5, 4, 0, 1] [] [(5, .int .i64 0), (4, .bool false), (0, .slice ad1 a.length c1), (1, .slice ad2 b.length c2)] (by kernel_rfl) rfl ak0 ?_
    refine GoR.done (GoQ.thn (GoC.block ?_))
    refine GoC.loop (T := Nat) (fun gg => [(0, .slice ad1 a.length c1), (1, .slice ad2 b.length c2), (5, .int .i64 (gg : Nat))]) (fun gg w => (gg ≤ a.length ∧ a.take gg = b.take gg) ∧ St w0 (L) w) (fun gg => a.length - gg) 0 [0, 1, 5] (by kernel_rfl) ⟨⟨Nat.zero_le _, rfl⟩, hs⟩ ?_
    rintro k w2 ⟨hp0, hs3⟩
    have hp : k ≤ a.length ∧ a.take k = b.take k := hp0
    have hs4 : St w0 (L) w2 := hs3
    refine GoC.slots (S' := [(0, .slice ad1 a.length c1), (1, .slice ad2 b.length c2), (5, .int .i64 (k : Nat))]) rfl ?_
    refine GoC.seq (GoC.seq ?_)
    refine GoC.regT [15, 15, 15, 15] (.rd 0 (.rd 1 (.rd 2 (.rd 3 .done)))) (by kernel_rfl) (by kernel_rfl) ?_
    refine GoR.phaseK [(0, .gen []), (1, .gen []), (2, .gen []), (3, .gen [])] [14, 0, 1, 5] [] [(14, .bool (decide (((k : Nat) : Int) < (a.length : Nat)))), (0, .slice ad1 a.length c1), (1, .slice ad2 b.length c2), (5, .int .i64 (k : Nat))] (by kernel_rfl) rfl ak0 ?_
    refine GoR.done (GoQ.thn ?_)
    refine GoC.cond (t := decide (((k : Nat) : Int) < (a.length : Nat))) (by kernel_rfl) (fun h5 => ?_) (fun h5 => ?_)
    · have h5' : ((k : Nat) : Int) < (a.length : Nat) := of_decide_eq_true h5
      have hk : k < a.length := by omega
      have hk2 : k < b.length := by omega
      obtain ⟨ab6, ao7, rfl⟩ := RowsAt.isSome (hr1 _ (hs4.drop 0)) (by omega)
      obtain ⟨ab8, ao9, rfl⟩ := RowsAt.isSome (hr2 _ (hs4.drop 0)) (by omega)
      refine GoC.skip (GoQ.thn (GoC.seq (GoC.block (GoC.seq ?_))))
      refine GoC.regD [0, 0, 3, 7, 0, 0, 48, 112, 255] (.rd 0 (.rd 1 (.rd 2 (.rd 3 (.rd 4 (.rd 5 (.rd 6 (.rd 7 (.rd 8 .done))))))))) (by kernel_rfl) (by kernel_rfl) noPan_body (by kernel_rfl) hs4 ?_
      intro w10 hs11 hw12
      refine GoR.phaseK [(0, .gen []), (1, .gen []), (2, .as_ (.pointer (some ⟨ab6, ao7 + (k * 2), none⟩)) .at_), (3, .agg (ItemV.cells (a.getD k dItem))), (4, .gen []), (5, .gen []), (6, .as_ (.pointer (some ⟨ab8, ao9 + (k * 2), none⟩)) .at_), (7, .agg (ItemV.cells (b.getD k dItem)))] [24, 20, 0, 1, 5] [(2, [.prop (0 ≤ ((k : Nat) : Int) ∧ ((k : Nat) : Int) < ((a.length : Nat) : Int)), .prop (Value.pointer (some (Addr.add ⟨ab6, ao7, none⟩ (Int.toNat (k : Nat) * 2))) = Value.pointer (some ⟨ab6, ao7 + (k * 2), none⟩))]), (3, [.prop (Array.size (ItemV.cells (a.getD k dItem)) = 2), .cells ⟨ab6, ao7 + (k * 2), none⟩ (ItemV.cells (a.getD k dItem))]), (6, [.prop (0 ≤ ((k : Nat) : Int) ∧ ((k : Nat) : Int) < ((b.length : Nat) : Int)), .prop (Value.pointer (some (Addr.add ⟨ab8, ao9, none⟩ (Int.toNat (k : Nat) * 2))) = Value.pointer (some ⟨ab8, ao9 + (k * 2), none⟩))]), (7, [.prop (Array.size (ItemV.cells (b.getD k dItem)) = 2), .cells ⟨ab8, ao9 + (k * 2), none⟩ (ItemV.cells (b.getD k dItem))])] [(24, .agg (ItemV.cells (b.getD k dItem))), (20, .agg (ItemV.cells (a.getD k dItem))), (0, .slice (some ⟨ab6, ao7, none⟩) a.length c1), (1, .slice (some ⟨ab8, ao9, none⟩) b.length c2), (5, .int .i64 (k : Nat))] (by kernel_rfl) rfl (ak (okp (by omega) (okp (ptrAdd _ _ _) ok0)) (ak (okp (by kernel_rfl) (oka (RowsAt.all0 (hr1 _ (hs11.drop 0)) (by first | omega | (simp only [List.length_set]; omega)) (Nat.le_of_ble_eq_true (by kernel_rfl)) (by kernel_rfl)) ok0)) (ak (okp (by omega) (okp (ptrAdd _ _ _) ok0)) (ak (okp (by kernel_rfl) (oka (RowsAt.all0 (hr2 _ (hs11.drop 0)) (by first | omega | (simp only [List.length_set]; omega)) (Nat.le_of_ble_eq_true (by kernel_rfl)) (by kernel_rfl)) ok0)) ak0)))) ?_
      refine GoR.eqAgg rfl (by kernel_rfl) (b := false) (t := 61) (xs := ItemV.cells (a.getD k dItem)) (ys := ItemV.cells (b.getD k dItem)) (m := 2) (by kernel_rfl) (by kernel_rfl) (by decide) (by kernel_rfl) (r := !(decide ((a.getD k dItem) = (b.getD k dItem)))) (aggNe  (itemEq (a.getD k dItem) (b.getD k dItem))) ?_
      refine GoR.done (GoQ.thn ?_)
      refine GoC.cond (t := !(decide ((a.getD k dItem) = (b.getD k dItem)))) (by kernel_rfl) (fun h13 => ?_) (fun h13 => ?_)
      · have h13n : (decide ((a.getD k dItem) = (b.getD k dItem))) = false := notT h13
        have h13n' : ¬ ((a.getD k dItem) = (b.getD k dItem)) := of_decide_eq_false h13n
        refine GoC.seq ?_
        refine GoC.regT [1] (.rd 0 .done) (by kernel_rfl) (by kernel_rfl) ?_
        refine GoR.phaseK [(0, .gen [])] [4, 0, 1, 5] [] [(4, .bool false), (0, .slice (some ⟨ab6, ao7, none⟩) a.length c1), (1, .slice (some ⟨ab8, ao9, none⟩) b.length c2), (5, .int .i64 (k : Nat))] (by kernel_rfl) rfl ak0 ?_
        refine GoR.done (GoQ.thn (GoC.ret (GoQ.blkR (GoQ.skipCR (GoQ.skipLR (GoQ.blkR (GoQ.skipCR ?_)))))))
        refine GoQ.done (.inl rfl) (v := .bool false) (fun a hf => results1 rfl (by kernel_rfl) a hf) ?_
        exact ⟨(congrArg Value.bool (decide_eq_false (fun e => by subst e; simp_all)).symm), hs11⟩
      · have h13n : (decide ((a.getD k dItem) = (b.getD k dItem))) = true := notF h13
        have h13n' : (a.getD k dItem) = (b.getD k dItem) := of_decide_eq_true h13n
        refine GoC.skip (GoQ.blkN (GoQ.thn ?_))
        refine GoC.regT [7, 7, 7] (.rd 0 (.rd 1 (.rd 2 .done))) (by kernel_rfl) (by kernel_rfl) ?_
        refine GoR.phaseK [(0, .gen []), (1, .as_ (.int .i64 ((k : Nat) + 1)) (.gen [])), (2, .gen [])] [5, 0, 1] [(1, [.prop (Value.int .i64 (IntKind.i64.wrap ((k : Nat) + 1)) = Value.int .i64 ((k : Nat) + 1))])] [(5, .int .i64 ((k : Nat) + 1)), (0, .slice (some ⟨ab6, ao7, none⟩) a.length c1), (1, .slice (some ⟨ab8, ao9, none⟩) b.length c2)] (by kernel_rfl) rfl (ak (okp (i64ok (by omega) (by omega)) ok0) ak0) ?_
        refine GoR.done ?_
        exact GoQ.back (k + 1) [0, 1, 5] (by kernel_rfl) (by show a.length - (k + 1) < a.length - k; omega) ⟨⟨by omega, by rw [take_succ_getD hk, take_succ_getD hk2, hp.2]; congr 2⟩, hs11⟩
    · have h5' : ¬ (((k : Nat) : Int) < (a.length : Nat)) := of_decide_eq_false h5
      refine GoC.exit (GoQ.skipC (GoQ.skipL (GoQ.hit (GoQ.thn (GoC.seq ?_)))))
      refine GoC.regT [1] (.rd 0 .done) (by kernel_rfl) (by kernel_rfl) ?_
      refine GoR.phaseK [(0, .gen [])] [4] [] [(4, .bool true)] (by kernel_rfl) rfl ak0 ?_
      refine GoR.done (GoQ.thn (GoC.ret ?_))
      refine GoQ.done (.inl rfl) (v := .bool true) (fun a hf => results1 rfl (by kernel_rfl) a hf) ?_
      exact ⟨(congrArg Value.bool (decide_eq_true (same_end (by omega) (by omega) hp.2)).symm), hs4⟩
theorem get_spec {w0 w : World} {L : List Asn} {p : Nat} {r : Nat} (m : List (ByteArray × ByteArray)) (key : ByteArray) (hml : m.length ≤ 4294967296) (hs : St w0 ((Cel p #[.map (some r)] 89) :: (MapA Value.string Value.string r m) :: L) w) : Calls Tryd.prog 24 #[.pointer (some ⟨p, 0, none⟩), .string key] w (Ret fun rv w' => rv = .tuple #[.string ((aget m key).getD (⟨#[]⟩ : ByteArray)), .bool ((aget m key).isSome)] ∧ St w0 ((Cel p #[.map (some r)] 89) :: (MapA Value.string Value.string r m) :: L) w') := by
  refine enter (args := [.pointer (some ⟨p, 0, none⟩), .string key]) Tryd.func24 rfl Tryd.ntmps24 (Nat.le_of_ble_eq_true (by kernel_rfl)) ?_
  refine GoC.slots (S' := [(0, .pointer (some ⟨p, 0, none⟩)), (1, .string key)]) rfl ?_
  refine GoC.seq ?_
  refine GoC.regT [3, 3] (.rd 0 (.rd 1 .done)) (by kernel_rfl) (by kernel_rfl) ?_
  refine GoR.phaseK [(0, .gen []), (1, .gen [])] [5, 4, 0, 1] [] [(5, .bool false), (4, .string (⟨#[]⟩ : ByteArray)), (0, .pointer (some ⟨p, 0, none⟩)), (1, .string key)] (by kernel_rfl) rfl ak0 ?_
  refine GoR.done (GoQ.thn (GoC.seq ?_))
  refine GoC.regT [7, 7, 7] (.rd 0 (.ef 1 (.rd 2 .done))) (by kernel_rfl) (by kernel_rfl) ?_
  refine GoR.phaseK [(0, .gen [])] [8, 5, 4, 1] [] [(8, .pointer (some ⟨p, 0, none⟩)), (5, .bool false), (4, .string (⟨#[]⟩ : ByteArray)), (1, .string key)] (by kernel_rfl) rfl ak0 ?_
  refine GoR.call rfl rfl (by kernel_rfl) (f := 23) (args := #[.pointer (some ⟨p, 0, none⟩)]) (by kernel_rfl) Tryd.call23 (list_spec m (hml) hs) ?_
  rintro v4 w5 ⟨ad2, c3, rfl, hs1⟩
  refine ⟨(opn (by kernel_rfl)), ?_⟩
  refine GoR.phaseK [(2, .gen [])] [6, 5, 4, 1] [] [(6, .slice ad2 ((lst m).length) c3), (5, .bool false), (4, .string (⟨#[]⟩ : ByteArray)), (1, .string key)] (by kernel_rfl) rfl ak0 ?_
  refine GoR.done (GoQ.thn (GoC.seq (GoC.seq ?_)))
  refine GoC.regT [1] (.rd 0 .done) (by kernel_rfl) (by kernel_rfl) ?_
  refine GoR.phaseK [(0, .gen [])] [7, 6, 5, 4, 1] [] [(7, .int .i64 0), (6, .slice ad2 ((lst m).length) c3), (5, .bool false), (4, .string (⟨#[]⟩ : ByteArray)), (1, .string key)] (by kernel_rfl) rfl ak0 ?_
  refine GoR.done (GoQ.thn (GoC.block ?_))
  have hlen := lst_length m
  have hn : Keyd m := keysOf hs1 2 rfl
  refine GoC.loop (T := Nat) (fun gg => [(1, .string key), (6, .slice ad2 ((lst m).length) c3), (7, .int .i64 (gg : Nat))]) (fun gg w => (gg ≤ (lst m).length ∧ ∀ x ∈ (lst m).take gg, ¬ x.key = key) ∧ St w0 ((Sl ad2 c3 61 2 ItemV.cells (lst m)) :: (Cel p #[.map (some r)] 89) :: (MapA Value.string Value.string r m) :: L) w) (fun gg => (lst m).length - gg) 0 [1, 6, 7] (by kernel_rfl) ⟨⟨Nat.zero_le _, fun x hx => by simp at hx⟩, hs1⟩ ?_
  rintro k w6 ⟨hp0, hs7⟩
  have hp : k ≤ (lst m).length ∧ ∀ x ∈ (lst m).take k, ¬ x.key = key := hp0
  have hs8 : St w0 ((Sl ad2 c3 61 2 ItemV.cells (lst m)) :: (Cel p #[.map (some r)] 89) :: (MapA Value.string Value.string r m) :: L) w6 := hs7
  refine GoC.slots (S' := [(1, .string key), (6, .slice ad2 ((lst m).length) c3), (7, .int .i64 (k : Nat))]) rfl ?_
  refine GoC.seq (GoC.seq ?_)
  refine GoC.regT [15, 15, 15, 15] (.rd 0 (.rd 1 (.rd 2 (.rd 3 .done)))) (by kernel_rfl) (by kernel_rfl) ?_
  refine GoR.phaseK [(0, .gen []), (1, .gen []), (2, .gen []), (3, .gen [])] [13, 1, 6, 7] [] [(13, .bool (decide (((k : Nat) : Int) < ((lst m).length : Nat)))), (1, .string key), (6, .slice ad2 ((lst m).length) c3), (7, .int .i64 (k : Nat))] (by kernel_rfl) rfl ak0 ?_
  refine GoR.done (GoQ.thn ?_)
  refine GoC.cond (t := decide (((k : Nat) : Int) < ((lst m).length : Nat))) (by kernel_rfl) (fun h9 => ?_) (fun h9 => ?_)
  · have h9' : ((k : Nat) : Int) < ((lst m).length : Nat) := of_decide_eq_true h9
    have hk : k < (lst m).length := by omega
    obtain ⟨ab10, rfl⟩ := Sl.isSome (hs8.at_ 0 rfl) (by omega)
    refine GoC.skip (GoQ.thn (GoC.seq (GoC.block (GoC.seq ?_))))
    refine GoC.regT [127, 127, 127, 127, 127, 127, 127] (.rd 0 (.rd 1 (.rd 2 (.rd 3 (.rd 4 (.rd 5 (.rd 6 .done))))))) (by kernel_rfl) (by kernel_rfl) ?_
    refine GoR.phaseK [(0, .gen []), (1, .gen []), (2, .as_ (.pointer (some ⟨ab10, 0 + (k * 2), none⟩)) .at_), (3, .gen []), (4, .gen [.string (((lst m).getD k dItem).key)]), (5, .gen []), (6, .as_ (.bool (decide ((((lst m).getD k dItem).key) = key))) (.gen []))] [22, 1, 6, 7] [(2, [.prop (0 ≤ ((k : Nat) : Int) ∧ ((k : Nat) : Int) < (((lst m).length : Nat) : Int)), .prop (Value.pointer (some (Addr.add ⟨ab10, 0, none⟩ (Int.toNat (k : Nat) * 2))) = Value.pointer (some ⟨ab10, 0 + (k * 2), none⟩))]), (4, [.cell ⟨ab10, 0 + (k * 2), none⟩ (.string (((lst m).getD k dItem).key))]), (6, [.prop (Value.bool ((((lst m).getD k dItem).key).toList == key.toList) = Value.bool (decide ((((lst m).getD k dItem).key) = key)))])] [(22, .bool (decide ((((lst m).getD k dItem).key) = key))), (1, .string key), (6, .slice (some ⟨ab10, 0, none⟩) ((lst m).length) c3), (7, .int .i64 (k : Nat))] (by kernel_rfl) rfl (ak (okp (by omega) (okp (ptrAdd _ _ _) ok0)) (ak (okc (RowsAt.at0 (hs8.rows 0 rfl (itemF).size dItem) (by first | omega | (simp only [List.length_set]; omega)) (j := 0) (by decide) (by kernel_rfl)) ok0) (ak (okp (seq _ _) ok0) ak0))) ?_
    refine GoR.done (GoQ.thn ?_)
    refine GoC.cond (t := decide ((((lst m).getD k dItem).key) = key)) (by kernel_rfl) (fun h12 => ?_) (fun h12 => ?_)
    · have h12' : (((lst m).getD k dItem).key) = key := of_decide_eq_true h12
      refine GoC.seq ?_
      refine GoC.regT [127, 127, 127, 127, 127, 127, 127] (.rd 0 (.rd 1 (.rd 2 (.rd 3 (.rd 4 (.rd 5 (.rd 6 .done))))))) (by kernel_rfl) (by kernel_rfl) ?_
      refine GoR.phaseK [(0, .gen []), (1, .gen []), (2, .as_ (.pointer (some ⟨ab10, 0 + (k * 2), none⟩)) .at_), (3, .gen []), (4, .gen [.string (((lst m).getD k dItem).value)]), (5, .gen []), (6, .gen [])] [5, 4, 1, 6, 7] [(2, [.prop (0 ≤ ((k : Nat) : Int) ∧ ((k : Nat) : Int) < (((lst m).length : Nat) : Int)), .prop (Value.pointer (some (Addr.add ⟨ab10, 0, none⟩ (Int.toNat (k : Nat) * 2))) = Value.pointer (some ⟨ab10, 0 + (k * 2), none⟩))]), (4, [.cell ⟨ab10, 0 + (k * 2) + 1, none⟩ (.string (((lst m).getD k dItem).value))])] [(5, .bool true), (4, .string (((lst m).getD k dItem).value)), (1, .string key), (6, .slice (some ⟨ab10, 0, none⟩) ((lst m).length) c3), (7, .int .i64 (k : Nat))] (by kernel_rfl) rfl (ak (okp (by omega) (okp (ptrAdd _ _ _) ok0)) (ak (okc (RowsAt.at0 (hs8.rows 0 rfl (itemF).size dItem) (by first | omega | (simp only [List.length_set]; omega)) (j := 1) (by decide) (by kernel_rfl)) ok0) ak0)) ?_
      refine GoR.done (GoQ.thn (GoC.ret (GoQ.blkR (GoQ.skipCR (GoQ.skipLR (GoQ.blkR (GoQ.skipCR ?_)))))))
      refine GoQ.done (.inl rfl) (v := .tuple #[.string (((lst m).getD k dItem).value), .bool true]) (fun a hf => results2 rfl (by kernel_rfl) (by kernel_rfl) a hf) ?_
      have hg := (lst_mem_aget hn).1 (getD_mem (d := dItem) hk)
      rw [h12'] at hg
      have hs13 : St w0 ((Cel p #[.map (some r)] 89) :: (MapA Value.string Value.string r m) :: L) w6 := hs8.drop 1
      exact ⟨(by rw [hg]; rfl), hs13⟩
    · have h12' : ¬ ((((lst m).getD k dItem).key) = key) := of_decide_eq_false h12
      refine GoC.skip (GoQ.blkN (GoQ.thn ?_))
      refine GoC.regT [7, 7, 7] (.rd 0 (.rd 1 (.rd 2 .done))) (by kernel_rfl) (by kernel_rfl) ?_
      refine GoR.phaseK [(0, .gen []), (1, .as_ (.int .i64 ((k : Nat) + 1)) (.gen [])), (2, .gen [])] [7, 1, 6] [(1, [.prop (Value.int .i64 (IntKind.i64.wrap ((k : Nat) + 1)) = Value.int .i64 ((k : Nat) + 1))])] [(7, .int .i64 ((k : Nat) + 1)), (1, .string key), (6, .slice (some ⟨ab10, 0, none⟩) ((lst m).length) c3)] (by kernel_rfl) rfl (ak (okp (i64ok (by omega) (by omega)) ok0) ak0) ?_
      refine GoR.done ?_
      exact GoQ.back (k + 1) [1, 6, 7] (by kernel_rfl) (by show (lst m).length - (k + 1) < (lst m).length - k; omega) ⟨⟨by omega, fun x hx => by rw [take_succ_getD (d := dItem) hk] at hx; exact (List.mem_append.1 hx).elim (hp.2 x) (fun h => by rw [List.mem_singleton.1 h]; exact h12')⟩, hs8⟩
  · have h9' : ¬ (((k : Nat) : Int) < ((lst m).length : Nat)) := of_decide_eq_false h9
    refine GoC.exit (GoQ.skipC (GoQ.skipL (GoQ.hit (GoQ.thn (GoC.seq ?_)))))
    refine GoC.regT [3, 3] (.rd 0 (.rd 1 .done)) (by kernel_rfl) (by kernel_rfl) ?_
    refine GoR.phaseK [(0, .gen []), (1, .gen [])] [5, 4] [] [(5, .bool false), (4, .string (⟨#[]⟩ : ByteArray))] (by kernel_rfl) rfl ak0 ?_
    refine GoR.done (GoQ.thn (GoC.ret ?_))
    refine GoQ.done (.inl rfl) (v := .tuple #[.string (⟨#[]⟩ : ByteArray), .bool false]) (fun a hf => results2 rfl (by kernel_rfl) (by kernel_rfl) a hf) ?_
    have hg : aget m key = none := aget_none_of fun x hx e => hp.2 ⟨x.1, x.2⟩ (by rw [List.take_of_length_le (by omega)]; exact lst_mem.2 hx) e
    have hs14 : St w0 ((Cel p #[.map (some r)] 89) :: (MapA Value.string Value.string r m) :: L) w6 := hs8.drop 1
    exact ⟨(by rw [hg]; rfl), hs14⟩
def oth (a b : ByteArray) (x : ItemV) : Bool := !decide (x.key = a) && !decide (x.key = b)
theorem oth_step {l : List ItemV} {a b : ByteArray} {k : Nat} {d : ItemV} (hk : k < l.length) : (l.take (k + 1)).filter (oth a b) = (l.take k).filter (oth a b) ++ (if oth a b (l.getD k d) = true then [l.getD k d] else []) := by
  rw [take_succ_getD (d := d) hk, List.filter_append]
  congr 1
  rw [List.filter_cons, List.filter_nil]
theorem others_spec {w0 w : World} {L : List Asn} {ad : Option Addr} {c : Nat} (l : List ItemV) (a : ByteArray) (b : ByteArray) (hll : l.length ≤ 1000000000000) (hr : ∀ w, St w0 L w → RowsAt w ad l.length 2 (fun k => ItemV.cells (l.getD k dItem))) (hs : St w0 (L) w) : Calls Tryd.prog 26 #[.slice ad l.length c, .string a, .string b] w (Ret fun rv w' => ∃ (ado : Option Addr) (co : Nat), rv = .slice ado ((l.filter (oth a b)).length) co ∧ St w0 ((Sl ado co 61 2 ItemV.cells (l.filter (oth a b))) :: L) w') := by
  refine enter (args := [.slice ad l.length c, .string a, .string b]) Tryd.func26 rfl Tryd.ntmps26 (Nat.le_of_ble_eq_true (by kernel_rfl)) ?_
  refine GoC.slots (S' := [(0, .slice ad l.length c), (1, .string a), (2, .string b)]) rfl ?_
  refine GoC.seq ?_
  refine GoC.regT [1] (.rd 0 .done) (by kernel_rfl) (by kernel_rfl) ?_
  refine GoR.phaseK [(0, .gen [])] [6, 0, 1, 2] [] [(6, .slice none 0 0), (0, .slice ad l.length c), (1, .string a), (2, .string b)] (by kernel_rfl) rfl ak0 ?_
  refine GoR.done (GoQ.thn (GoC.seq ?_))
  refine GoC.regT [1] (.rd 0 .done) (by kernel_rfl) (by kernel_rfl) ?_
  refine GoR.phaseK [(0, .gen [])] [7, 6, 0, 1, 2] [] [(7, .slice none 0 0), (6, .slice none 0 0), (0, .slice ad l.length c), (1, .string a), (2, .string b)] (by kernel_rfl) rfl ak0 ?_
  refine GoR.done (GoQ.thn (GoC.seq (GoC.seq ?_)))
  refine GoC.regT [1] (.rd 0 .done) (by kernel_rfl) (by kernel_rfl) ?_
  refine GoR.phaseK [(0, .gen [])] [8, 7, 6, 0, 1, 2] [] [(8, .int .i64 0), (7, .slice none 0 0), (6, .slice none 0 0), (0, .slice ad l.length c), (1, .string a), (2, .string b)] (by kernel_rfl) rfl ak0 ?_
  refine GoR.done (GoQ.thn (GoC.block ?_))
  have hn0 := hs.slNil 61 2 ItemV.cells
  refine GoC.loop (T := Nat × (List ItemV) × (Option Addr) × Nat) (fun gg => [(0, .slice ad l.length c), (1, .string a), (2, .string b), (6, .slice none 0 0), (7, .slice gg.2.2.1 gg.2.1.length gg.2.2.2), (8, .int .i64 (gg.1 : Nat))]) (fun gg w => (gg.1 ≤ l.length ∧ gg.2.1 = (l.take gg.1).filter (oth a b)) ∧ St w0 ((Sl gg.2.2.1 gg.2.2.2 61 2 ItemV.cells gg.2.1) :: L) w) (fun gg => l.length - gg.1) (0, [], none, 0) [0, 1, 2, 6, 7, 8] (by kernel_rfl) ⟨⟨Nat.zero_le _, rfl⟩, hn0⟩ ?_
  rintro ⟨k, out, ado, co⟩ w1 ⟨hp0, hs2⟩
  have hp : k ≤ l.length ∧ out = (l.take k).filter (oth a b) := hp0
  have hs3 : St w0 ((Sl ado co 61 2 ItemV.cells out) :: L) w1 := hs2
  refine GoC.slots (S' := [(0, .slice ad l.length c), (1, .string a), (2, .string b), (6, .slice none 0 0), (7, .slice ado out.length co), (8, .int .i64 (k : Nat))]) rfl ?_
  refine GoC.seq (GoC.seq ?_)
  refine GoC.regT [15, 15, 15, 15] (.rd 0 (.rd 1 (.rd 2 (.rd 3 .done)))) (by kernel_rfl) (by kernel_rfl) ?_
  refine GoR.phaseK [(0, .gen []), (1, .gen []), (2, .gen []), (3, .gen [])] [12, 0, 1, 2, 6, 7, 8] [] [(12, .bool (decide (((k : Nat) : Int) < (l.length : Nat)))), (0, .slice ad l.length c), (1, .string a), (2, .string b), (6, .slice none 0 0), (7, .slice ado out.length co), (8, .int .i64 (k : Nat))] (by kernel_rfl) rfl ak0 ?_
  refine GoR.done (GoQ.thn ?_)
  refine GoC.cond (t := decide (((k : Nat) : Int) < (l.length : Nat))) (by kernel_rfl) (fun h4 => ?_) (fun h4 => ?_)
  · have h4' : ((k : Nat) : Int) < (l.length : Nat) := of_decide_eq_true h4
    have hk : k < l.length := by omega
    obtain ⟨ab5, ao6, rfl⟩ := RowsAt.isSome (hr _ (hs3.drop 1)) (by omega)
    refine GoC.skip (GoQ.thn (GoC.seq (GoC.block (GoC.seq ?_))))
    refine GoC.join (T := Unit) (E := fun _ => [(30, .bool ((!(decide (((l.getD k dItem).key) = a))) && (!(decide (((l.getD k dItem).key) = b))))), (0, .slice (some ⟨ab5, ao6, none⟩) l.length c), (1, .string a), (2, .string b), (6, .slice none 0 0), (7, .slice ado out.length co), (8, .int .i64 (k : Nat))]) (F := fun _ w => St w0 ((Sl ado co 61 2 ItemV.cells out) :: L) w) ?_ ?_
    · refine GoC.regT [65535, 65535, 65535, 65535, 65535, 65535, 65535, 65535, 65535, 65535, 65535, 65535, 65535, 65535, 65535, 65535] (.rd 0 (.rd 1 (.rd 2 (.rd 3 (.rd 4 (.rd 5 (.rd 6 (.rd 7 (.rd 8 (.rd 9 (.rd 10 (.rd 11 (.rd 12 (.rd 13 (.rd 14 (.rd 15 .done)))))))))))))))) (by kernel_rfl) (by kernel_rfl) ?_
      refine GoR.phaseK [(0, .gen []), (1, .gen []), (2, .as_ (.pointer (some ⟨ab5, ao6 + (k * 2), none⟩)) .at_), (3, .gen []), (4, .gen [.string ((l.getD k dItem).key)]), (5, .gen []), (6, .as_ (.bool (!(decide (((l.getD k dItem).key) = a)))) (.gen [])), (7, .gen [])] [22, 0, 1, 2, 6, 7, 8] [(2, [.prop (0 ≤ ((k : Nat) : Int) ∧ ((k : Nat) : Int) < ((l.length : Nat) : Int)), .prop (Value.pointer (some (Addr.add ⟨ab5, ao6, none⟩ (Int.toNat (k : Nat) * 2))) = Value.pointer (some ⟨ab5, ao6 + (k * 2), none⟩))]), (4, [.cell ⟨ab5, ao6 + (k * 2), none⟩ (.string ((l.getD k dItem).key))]), (6, [.prop (Value.bool (!(((l.getD k dItem).key).toList == a.toList)) = Value.bool (!(decide (((l.getD k dItem).key) = a))))])] [(22, .bool (!(decide (((l.getD k dItem).key) = a)))), (0, .slice (some ⟨ab5, ao6, none⟩) l.length c), (1, .string a), (2, .string b), (6, .slice none 0 0), (7, .slice ado out.length co), (8, .int .i64 (k : Nat))] (by kernel_rfl) rfl (ak (okp (by omega) (okp (ptrAdd _ _ _) ok0)) (ak (okc (RowsAt.at0 (hr _ (hs3.drop 1)) (by first | omega | (simp only [List.length_set]; omega)) (j := 0) (by decide) (by kernel_rfl)) ok0) (ak (okp (sne _ _) ok0) ak0))) ?_
      rcases Bool.eq_false_or_eq_true (!(decide (((l.getD k dItem).key) = a))) with h7 | h7
      · refine GoR.setB 22 true (by decide) (by kernel_rfl) h7 ?_
        have h7n : (decide (((l.getD k dItem).key) = a)) = false := notT h7
        have h7n' : ¬ (((l.getD k dItem).key) = a) := of_decide_eq_false h7n
        refine GoR.phaseK [(8, .gen []), (9, .gen []), (10, .as_ (.pointer (some ⟨ab5, ao6 + (k * 2), none⟩)) .at_), (11, .gen []), (12, .gen [.string ((l.getD k dItem).key)]), (13, .gen []), (14, .as_ (.bool (!(decide (((l.getD k dItem).key) = b)))) (.gen [])), (15, .gen [])] [30, 0, 1, 2, 6, 7, 8] [(10, [.prop (0 ≤ ((k : Nat) : Int) ∧ ((k : Nat) : Int) < ((l.length : Nat) : Int)), .prop (Value.pointer (some (Addr.add ⟨ab5, ao6, none⟩ (Int.toNat (k : Nat) * 2))) = Value.pointer (some ⟨ab5, ao6 + (k * 2), none⟩))]), (12, [.cell ⟨ab5, ao6 + (k * 2), none⟩ (.string ((l.getD k dItem).key))]), (14, [.prop (Value.bool (!(((l.getD k dItem).key).toList == b.toList)) = Value.bool (!(decide (((l.getD k dItem).key) = b))))])] [(30, .bool (!(decide (((l.getD k dItem).key) = b)))), (0, .slice (some ⟨ab5, ao6, none⟩) l.length c), (1, .string a), (2, .string b), (6, .slice none 0 0), (7, .slice ado out.length co), (8, .int .i64 (k : Nat))] (by kernel_rfl) rfl (ak (okp (by omega) (okp (ptrAdd _ _ _) ok0)) (ak (okc (RowsAt.at0 (hr _ (hs3.drop 1)) (by first | omega | (simp only [List.length_set]; omega)) (j := 0) (by decide) (by kernel_rfl)) ok0) (ak (okp (sne _ _) ok0) ak0))) ?_
        refine GoR.done ?_
        refine GoQ.pick [30, 0, 1, 2, 6, 7, 8] (S' := [(30, .bool (!(decide (((l.getD k dItem).key) = b)))), (0, .slice (some ⟨ab5, ao6, none⟩) l.length c), (1, .string a), (2, .string b), (6, .slice none 0 0), (7, .slice ado out.length co), (8, .int .i64 (k : Nat))]) (by kernel_rfl) ?_
        exact GoQ.meet1 () (by first | rfl | (simp only [h7, h7n, Bool.not_true, Bool.not_false, Bool.true_or, Bool.false_or, Bool.true_and, Bool.false_and, Bool.or_true, Bool.or_false, Bool.and_true, Bool.and_false]; done) | (simp [h7, h7n]; done)) hs3
      · refine GoR.setB 22 false (by decide) (by kernel_rfl) h7 ?_
        have h7n : (decide (((l.getD k dItem).key) = a)) = true := notF h7
        have h7n' : ((l.getD k dItem).key) = a := of_decide_eq_true h7n
        refine GoR.phaseK [(8, .gen []), (9, .gen []), (10, .gen []), (11, .gen []), (12, .gen []), (13, .gen []), (14, .gen []), (15, .gen [])] [30, 0, 1, 2, 6, 7, 8] [] [(30, .bool false), (0, .slice (some ⟨ab5, ao6, none⟩) l.length c), (1, .string a), (2, .string b), (6, .slice none 0 0), (7, .slice ado out.length co), (8, .int .i64 (k : Nat))] (by kernel_rfl) rfl ak0 ?_
        refine GoR.done ?_
        refine GoQ.pick [30, 0, 1, 2, 6, 7, 8] (S' := [(30, .bool false), (0, .slice (some ⟨ab5, ao6, none⟩) l.length c), (1, .string a), (2, .string b), (6, .slice none 0 0), (7, .slice ado out.length co), (8, .int .i64 (k : Nat))]) (by kernel_rfl) ?_
        exact GoQ.meet1 () (by first | rfl | (simp only [h7, h7n, Bool.not_true, Bool.not_false, Bool.true_or, Bool.false_or, Bool.true_and, Bool.false_and, Bool.or_true, Bool.or_false, Bool.and_true, Bool.and_false]; done) | (simp [h7, h7n]; done)) hs3
    intro _ w8 hs9
    refine GoQ.thn ?_
    refine GoC.cond (t := (!(decide (((l.getD k dItem).key) = a))) && (!(decide (((l.getD k dItem).key) = b)))) (by kernel_rfl) (fun h10 => ?_) (fun h10 => ?_)
    · have h10a : (!(decide (((l.getD k dItem).key) = a))) = true := (Bool.and_eq_true_iff.1 h10).1
      have h10an : (decide (((l.getD k dItem).key) = a)) = false := notT h10a
      have h10an' : ¬ (((l.getD k dItem).key) = a) := of_decide_eq_false h10an
      have h10b : (!(decide (((l.getD k dItem).key) = b))) = true := (Bool.and_eq_true_iff.1 h10).2
      have h10bn : (decide (((l.getD k dItem).key) = b)) = false := notT h10b
      have h10bn' : ¬ (((l.getD k dItem).key) = b) := of_decide_eq_false h10bn
      refine GoC.regT [255, 255, 255, 255, 255, 255, 255, 255] (.rd 0 (.rd 1 (.rd 2 (.rd 3 (.rd 4 (.ef 5 (.ef 6 (.rd 7 .done)))))))) (by kernel_rfl) (by kernel_rfl) ?_
      refine GoR.phaseK [(0, .gen []), (1, .gen []), (2, .gen []), (3, .as_ (.pointer (some ⟨ab5, ao6 + (k * 2), none⟩)) .at_), (4, .agg (ItemV.cells (l.getD k dItem)))] [35, 31, 0, 1, 2, 6, 7, 8] [(3, [.prop (0 ≤ ((k : Nat) : Int) ∧ ((k : Nat) : Int) < ((l.length : Nat) : Int)), .prop (Value.pointer (some (Addr.add ⟨ab5, ao6, none⟩ (Int.toNat (k : Nat) * 2))) = Value.pointer (some ⟨ab5, ao6 + (k * 2), none⟩))]), (4, [.prop (Array.size (ItemV.cells (l.getD k dItem)) = 2), .cells ⟨ab5, ao6 + (k * 2), none⟩ (ItemV.cells (l.getD k dItem))])] [(35, .agg (ItemV.cells (l.getD k dItem))), (31, .slice ado out.length co), (0, .slice (some ⟨ab5, ao6, none⟩) l.length c), (1, .string a), (2, .string b), (6, .slice none 0 0), (7, .slice ado out.length co), (8, .int .i64 (k : Nat))] (by kernel_rfl) rfl (ak (okp (by omega) (okp (ptrAdd _ _ _) ok0)) (ak (okp (by kernel_rfl) (oka (RowsAt.all0 (hr _ (hs9.drop 1)) (by first | omega | (simp only [List.length_set]; omega)) (Nat.le_of_ble_eq_true (by kernel_rfl)) (by kernel_rfl)) ok0)) ak0)) ?_
      refine GoR.sliceLit rfl (by kernel_rfl) (t := 49) (e := 61) (n := 1) (ps := [(0, .agg (ItemV.cells (l.getD k dItem)))]) (by kernel_rfl) (by kernel_rfl) (ti := Tryd.t61) (z := .agg #[.string (⟨#[]⟩ : ByteArray), .string (⟨#[]⟩ : ByteArray)]) (by kernel_rfl) (by kernel_rfl) (by decide) (by decide) (cs := #[.string ((l.getD k dItem).key), .string ((l.getD k dItem).value)]) (by kernel_rfl) hs9 ?_
      intro b11 w12 hs13 hz14
      have hs15 : St w0 ((Sl (some ⟨b11, 0, none⟩) 1 61 2 ItemV.cells ([((l.getD k dItem) : ItemV)])) :: (Sl ado co 61 2 ItemV.cells out) :: L) w12 := St.slOf (l := [((l.getD k dItem) : ItemV)]) (f := ItemV.cells) hs13 hz14 (itemF).size (by simp only [List.length_cons, List.length_nil, maxLen]; omega) (by kernel_rfl)
      refine ⟨(opn (by kernel_rfl)), ?_⟩
      have hs18 : St w0 ((Sl ado co 61 2 ItemV.cells out) :: (Sl (some ⟨b11, 0, none⟩) 1 61 2 ItemV.cells ([((l.getD k dItem) : ItemV)])) :: L) w12 := (hs15.pull 1 rfl)
      refine GoR.append rfl (by kernel_rfl) itemsOK itemF (ad := ado) (c := co) (xs := out) (ys := [((l.getD k dItem) : ItemV)]) (adx := some ⟨b11, 0, none⟩) (cx := 1) dItem (by kernel_rfl) hs18 (hs18.rows 1 rfl (itemF).size dItem) (fun h => nomatch h) (by have hh : out.length ≤ l.length := (by rw [hp.2]; exact Nat.le_trans (List.length_filter_le ..) (by rw [List.length_take]; omega)); simp only [List.length_cons, List.length_nil]; omega) (by have hh : out.length ≤ l.length := (by rw [hp.2]; exact Nat.le_trans (List.length_filter_le ..) (by rw [List.length_take]; omega)); simp only [List.length_cons, List.length_nil]; omega) ?_
      intro ad19 c20 w16 hs17
      refine ⟨(opn (by kernel_rfl)), ?_⟩
      refine GoR.phaseK [(7, .gen [])] [7, 0, 1, 2, 6, 8] [] [(7, .slice ad19 ((out ++ ([((l.getD k dItem) : ItemV)])).length) c20), (0, .slice (some ⟨ab5, ao6, none⟩) l.length c), (1, .string a), (2, .string b), (6, .slice none 0 0), (8, .int .i64 (k : Nat))] (by kernel_rfl) rfl ak0 ?_
      refine GoR.done (GoQ.blkN (GoQ.thn ?_))
      refine GoC.regT [7, 7, 7] (.rd 0 (.rd 1 (.rd 2 .done))) (by kernel_rfl) (by kernel_rfl) ?_
      refine GoR.phaseK [(0, .gen []), (1, .as_ (.int .i64 ((k : Nat) + 1)) (.gen [])), (2, .gen [])] [8, 7, 0, 1, 2, 6] [(1, [.prop (Value.int .i64 (IntKind.i64.wrap ((k : Nat) + 1)) = Value.int .i64 ((k : Nat) + 1))])] [(8, .int .i64 ((k : Nat) + 1)), (7, .slice ad19 ((out ++ ([((l.getD k dItem) : ItemV)])).length) c20), (0, .slice (some ⟨ab5, ao6, none⟩) l.length c), (1, .string a), (2, .string b), (6, .slice none 0 0)] (by kernel_rfl) rfl (ak (okp (i64ok (by omega) (by omega)) ok0) ak0) ?_
      refine GoR.done ?_
      have hs21 : St w0 ((Sl (some ⟨b11, 0, none⟩) 1 61 2 ItemV.cells ([((l.getD k dItem) : ItemV)])) :: (Sl ad19 c20 61 2 ItemV.cells (out ++ ([((l.getD k dItem) : ItemV)]))) :: L) w16 := ((hs17.pull 0 rfl).pull 1 rfl)
      have hs22 : St w0 ((Sl ad19 c20 61 2 ItemV.cells (out ++ ([((l.getD k dItem) : ItemV)]))) :: L) w16 := hs21.drop 1
      exact GoQ.back (k + 1, out ++ ([((l.getD k dItem) : ItemV)]), ad19, c20) [0, 1, 2, 6, 7, 8] (by kernel_rfl) (by show l.length - (k + 1) < l.length - k; omega) ⟨⟨by omega, by rw [oth_step (d := dItem) hk, if_pos (show oth a b _ = true from h10), hp.2]⟩, hs22⟩
    · refine GoC.skip (GoQ.blkN (GoQ.thn ?_))
      refine GoC.regT [7, 7, 7] (.rd 0 (.rd 1 (.rd 2 .done))) (by kernel_rfl) (by kernel_rfl) ?_
      refine GoR.phaseK [(0, .gen []), (1, .as_ (.int .i64 ((k : Nat) + 1)) (.gen [])), (2, .gen [])] [8, 0, 1, 2, 6, 7] [(1, [.prop (Value.int .i64 (IntKind.i64.wrap ((k : Nat) + 1)) = Value.int .i64 ((k : Nat) + 1))])] [(8, .int .i64 ((k : Nat) + 1)), (0, .slice (some ⟨ab5, ao6, none⟩) l.length c), (1, .string a), (2, .string b), (6, .slice none 0 0), (7, .slice ado out.length co)] (by kernel_rfl) rfl (ak (okp (i64ok (by omega) (by omega)) ok0) ak0) ?_
      refine GoR.done ?_
      exact GoQ.back (k + 1, out, ado, co) [0, 1, 2, 6, 7, 8] (by kernel_rfl) (by show l.length - (k + 1) < l.length - k; omega) ⟨⟨by omega, by rw [oth_step (d := dItem) hk, if_neg (ne_true_of_eq_false (show oth a b _ = false from h10)), List.append_nil]; exact hp.2⟩, hs9⟩
  · have h4' : ¬ (((k : Nat) : Int) < (l.length : Nat)) := of_decide_eq_false h4
    refine GoC.exit (GoQ.skipC (GoQ.skipL (GoQ.hit (GoQ.thn (GoC.seq ?_)))))
    refine GoC.regT [3, 3] (.rd 0 (.rd 1 .done)) (by kernel_rfl) (by kernel_rfl) ?_
    refine GoR.phaseK [(0, .gen []), (1, .gen [])] [6] [] [(6, .slice ado out.length co)] (by kernel_rfl) rfl ak0 ?_
    refine GoR.done (GoQ.thn (GoC.ret ?_))
    refine GoQ.done (.inl rfl) (v := .slice ado out.length co) (fun a hf => results1 rfl (by kernel_rfl) a hf) ?_
    have ho : out = l.filter (oth a b) := by rw [hp.2, List.take_of_length_le (by omega)]
    subst ho
    exact ⟨ado, co, rfl, hs3⟩
def dOut (n : Int) (out : ByteArray) : ByteArray := if n = 0 ∧ out ≠ ⟨#[]⟩ then out else dec n ++ out
theorem dig1 {c : Int} (h0 : 0 ≤ c) (h1 : c < 10) : (⟨([u8of (48 + c)] : List UInt8).toArray⟩ : ByteArray) = ⟨#[UInt8.ofNat (48 + c.toNat)]⟩ := by
  have : (48 + c).toNat = 48 + c.toNat := by omega
  simp [u8of, this]
theorem cat_ne (a : UInt8) (l : ByteArray) : (⟨#[a]⟩ : ByteArray) ++ l ≠ ⟨#[]⟩ := by
  intro e
  have := congrArg ByteArray.size e
  rw [ByteArray.size_append] at this
  have h1 : (⟨#[a]⟩ : ByteArray).size = 1 := rfl
  have h2 : (⟨#[]⟩ : ByteArray).size = 0 := rfl
  omega
theorem dOut_step {n : Int} {out : ByteArray} (h0 : 0 ≤ n) (hg : 0 < n ∨ out = ⟨#[]⟩) : dOut (n / 10) ((⟨([u8of (48 + n % 10)] : List UInt8).toArray⟩ : ByteArray) ++ out) = dOut n out := by
  rw [dig1 (by omega) (by omega)]
  have hne : ¬ (n = 0 ∧ out ≠ ⟨#[]⟩) := by
    rintro ⟨h1, h2⟩
    rcases hg with h | h
    · omega
    · exact h2 h
  rw [dOut, dOut, if_neg hne]
  by_cases h10 : n < 10
  · rw [if_pos ⟨by omega, cat_ne _ _⟩, dec_small h0 h10]
    have e : n % 10 = n := by omega
    rw [e]
  · rw [if_neg (by omega), dec_step (n := n) (by omega), ByteArray.append_assoc]
theorem digits_mu {n : Int} {a : UInt8} {out : ByteArray} (h0 : 0 ≤ n) (hg : 0 < n ∨ out = ⟨#[]⟩) : (n / 10).toNat + (if (⟨#[a]⟩ : ByteArray) ++ out = ⟨#[]⟩ then 1 else 0) < n.toNat + (if out = ⟨#[]⟩ then 1 else 0) := by
  rw [if_neg (cat_ne _ _)]
  rcases hg with h | h
  · omega
  · rw [if_pos h]; omega
theorem num_bad {s : ByteArray} {k : Nat} (hk : k < s.data.toList.length) (h : bat s k < 48 ∨ 57 < bat s k) : num s = (0, false) := by
  rw [num, if_neg]
  intro hc
  have hm := List.all_eq_true.1 hc.2.2 _ (List.getElem_mem hk)
  have he : (s.data.toList[k]'hk).toNat = bat s k := by rw [bat_list, List.getD_eq_getElem?_getD, List.getElem?_eq_getElem hk]; rfl
  simp only [isDig, he, Bool.and_eq_true, decide_eq_true_eq] at hm
  omega
theorem dOut_size (n : Int) (out : ByteArray) : out.size ≤ (dOut n out).size := by
  unfold dOut
  split
  · exact Nat.le_refl _
  · rw [ByteArray.size_append]; omega
theorem digits_spec {w0 w : World} {L : List Asn} (n0 : Int) (h0 : 0 ≤ n0) (h1' : n0 < 18446744073709551616) (hs : St w0 (L) w) : Calls Tryd.prog 47 #[.int .u64 n0] w (Ret fun rv w' => rv = .string (dec n0) ∧ St w0 (L) w') := by
  refine enter (args := [.int .u64 n0]) Tryd.func47 rfl Tryd.ntmps47 (Nat.le_of_ble_eq_true (by kernel_rfl)) ?_
  refine GoC.slots (S' := [(0, .int .u64 n0)]) rfl ?_
  refine GoC.seq ?_
  refine GoC.regT [1] (.rd 0 .done) (by kernel_rfl) (by kernel_rfl) ?_
  refine GoR.phaseK [(0, .gen [])] [2, 0] [] [(2, .string (⟨#[]⟩ : ByteArray)), (0, .int .u64 n0)] (by kernel_rfl) rfl ak0 ?_
  refine GoR.done (GoQ.thn (GoC.seq ?_))
  refine GoC.regT [1] (.rd 0 .done) (by kernel_rfl) (by kernel_rfl) ?_
  refine GoR.phaseK [(0, .gen [])] [3, 2, 0] [] [(3, .string (⟨#[]⟩ : ByteArray)), (2, .string (⟨#[]⟩ : ByteArray)), (0, .int .u64 n0)] (by kernel_rfl) rfl ak0 ?_
  refine GoR.done (GoQ.thn (GoC.seq (GoC.block ?_)))
  refine GoC.loop (T := Int × ByteArray) (fun gg => [(0, .int .u64 gg.1), (2, .string (⟨#[]⟩ : ByteArray)), (3, .string gg.2)]) (fun gg w => ((0 ≤ gg.1 ∧ gg.1 < 18446744073709551616) ∧ dOut gg.1 gg.2 = dec n0) ∧ St w0 (L) w) (fun gg => gg.1.toNat + (if gg.2 = ⟨#[]⟩ then 1 else 0)) (n0, ⟨#[]⟩) [0, 2, 3] (by kernel_rfl) ⟨⟨by omega, by rw [dOut, if_neg (fun h => h.2 rfl)]; exact ByteArray.append_empty⟩, hs⟩ ?_
  rintro ⟨n, out⟩ w1 ⟨hp0, hs2⟩
  have hp : (0 ≤ n ∧ n < 18446744073709551616) ∧ dOut n out = dec n0 := hp0
  have hs3 : St w0 (L) w1 := hs2
  refine GoC.slots (S' := [(0, .int .u64 n), (2, .string (⟨#[]⟩ : ByteArray)), (3, .string out)]) rfl ?_
  refine GoC.seq (GoC.seq ?_)
  refine GoC.join (T := Unit) (E := fun _ => [(9, .bool ((decide ((n : Int) > 0)) || (decide (out = (⟨#[]⟩ : ByteArray))))), (0, .int .u64 n), (2, .string (⟨#[]⟩ : ByteArray)), (3, .string out)]) (F := fun _ w => St w0 (L) w) ?_ ?_
  · refine GoC.regT [63, 63, 63, 63, 63, 63] (.rd 0 (.rd 1 (.rd 2 (.rd 3 (.rd 4 (.rd 5 .done)))))) (by kernel_rfl) (by kernel_rfl) ?_
    refine GoR.phaseK [(0, .gen []), (1, .gen []), (2, .gen [])] [6, 0, 2, 3] [] [(6, .bool (decide ((n : Int) > 0))), (0, .int .u64 n), (2, .string (⟨#[]⟩ : ByteArray)), (3, .string out)] (by kernel_rfl) rfl ak0 ?_
    rcases Bool.eq_false_or_eq_true (decide ((n : Int) > 0)) with h4 | h4
    · refine GoR.setB 6 true (by decide) (by kernel_rfl) h4 ?_
      have h4' : (n : Int) > 0 := of_decide_eq_true h4
      refine GoR.phaseK [(3, .gen []), (4, .gen []), (5, .gen [])] [9, 0, 2, 3] [] [(9, .bool true), (0, .int .u64 n), (2, .string (⟨#[]⟩ : ByteArray)), (3, .string out)] (by kernel_rfl) rfl ak0 ?_
      refine GoR.done ?_
      refine GoQ.pick [9, 0, 2, 3] (S' := [(9, .bool true), (0, .int .u64 n), (2, .string (⟨#[]⟩ : ByteArray)), (3, .string out)]) (by kernel_rfl) ?_
      exact GoQ.meet1 () (by first | rfl | (simp only [h4, Bool.not_true, Bool.not_false, Bool.true_or, Bool.false_or, Bool.true_and, Bool.false_and, Bool.or_true, Bool.or_false, Bool.and_true, Bool.and_false]; done) | (simp [h4]; done)) hs3
    · refine GoR.setB 6 false (by decide) (by kernel_rfl) h4 ?_
      have h4' : ¬ ((n : Int) > 0) := of_decide_eq_false h4
      refine GoR.phaseK [(3, .gen []), (4, .as_ (.bool (decide (out = (⟨#[]⟩ : ByteArray)))) (.gen [])), (5, .gen [])] [9, 0, 2, 3] [(4, [.prop (Value.bool (out.toList == (⟨#[]⟩ : ByteArray).toList) = Value.bool (decide (out = (⟨#[]⟩ : ByteArray))))])] [(9, .bool (decide (out = (⟨#[]⟩ : ByteArray)))), (0, .int .u64 n), (2, .string (⟨#[]⟩ : ByteArray)), (3, .string out)] (by kernel_rfl) rfl (ak (okp (seq _ _) ok0) ak0) ?_
      refine GoR.done ?_
      refine GoQ.pick [9, 0, 2, 3] (S' := [(9, .bool (decide (out = (⟨#[]⟩ : ByteArray)))), (0, .int .u64 n), (2, .string (⟨#[]⟩ : ByteArray)), (3, .string out)]) (by kernel_rfl) ?_
      exact GoQ.meet1 () (by first | rfl | (simp only [h4, Bool.not_true, Bool.not_false, Bool.true_or, Bool.false_or, Bool.true_and, Bool.false_and, Bool.or_true, Bool.or_false, Bool.and_true, Bool.and_false]; done) | (simp [h4]; done)) hs3
  intro _ w5 hs6
  refine GoQ.thn ?_
  refine GoC.cond (t := (decide ((n : Int) > 0)) || (decide (out = (⟨#[]⟩ : ByteArray)))) (by kernel_rfl) (fun h7 => ?_) (fun h7 => ?_)
  · have hos : out.size ≤ 20 := by
      have h1 := dOut_size n out
      rw [hp.2] at h1
      have h2 := dec_size n0 h0 h1'
      omega
    have hgo : 0 < n ∨ out = ⟨#[]⟩ := by simpa using h7
    refine GoC.skip (GoQ.thn (GoC.block (GoC.seq ?_)))
    refine GoC.regT [511, 511, 511, 511, 511, 511, 511, 511, 511] (.rd 0 (.rd 1 (.rd 2 (.rd 3 (.ef 4 (.rd 5 (.rd 6 (.rd 7 (.rd 8 .done))))))))) (by kernel_rfl) (by kernel_rfl) ?_
    refine GoR.phaseK [(0, .gen []), (1, .div (n % 10)), (2, .as_ (.int .u64 (48 + (n % 10))) (.gen [])), (3, .as_ (.int .u8 (48 + (n % 10))) (.gen []))] [13, 0, 2, 3] [(1, [.prop (IntKind.u64 = IntKind.u64 ∧ (10 : Int) ≠ 0 ∧ Int.tmod n 10 = n % 10)]), (2, [.prop (Value.int .u64 (IntKind.u64.wrap (48 + (n % 10))) = Value.int .u64 (48 + (n % 10)))]), (3, [.prop (Value.int .u8 (IntKind.u8.wrap (48 + (n % 10))) = Value.int .u8 (48 + (n % 10)))])] [(13, .int .u8 (48 + (n % 10))), (0, .int .u64 n), (2, .string (⟨#[]⟩ : ByteArray)), (3, .string out)] (by kernel_rfl) rfl (ak (okp ⟨rfl, by decide, Int.tmod_eq_emod_of_nonneg (by first | omega | exact Int.natCast_nonneg _)⟩ ok0) (ak (okp (u64ok (by omega) (by omega)) ok0) (ak (okp (u8ok (by omega) (by omega)) ok0) ak0))) ?_
    refine GoR.sliceLit rfl (by kernel_rfl) (t := 72) (e := 5) (n := 1) (ps := [(0, .int .u8 (48 + (n % 10)))]) (by kernel_rfl) (by kernel_rfl) (ti := Tryd.t5) (z := .int .u8 0) (by kernel_rfl) (by kernel_rfl) (by decide) (by decide) (cs := #[.int .u8 (48 + (n % 10))]) (by kernel_rfl) hs6 ?_
    intro b8 w9 hs10 hz11
    refine ⟨(opn (by kernel_rfl)), ?_⟩
    refine GoR.bytesStr rfl (by kernel_rfl) (src := 72) (dst := 9) (e := 5) (b := b8) (off := 0) (cap := 1) (q := ([u8of (48 + (n % 10))] : List UInt8)) (by kernel_rfl) (by kernel_rfl) (by kernel_rfl) (by kernel_rfl) (celBytes [48 + (n % 10)] (hs10.at_ 0 rfl) (by intro x hx; simp only [List.mem_cons, List.not_mem_nil, or_false] at hx; omega)) ?_
    refine GoR.phaseK [(6, .gen []), (7, .add2), (8, .gen [])] [3, 0, 2] [(7, [.prop (((ByteArray.size (⟨(([u8of (48 + (n % 10))] : List UInt8)).toArray⟩ : ByteArray) + ByteArray.size out : Nat) : Int) ≤ IntKind.i64.max)])] [(3, .string ((⟨(([u8of (48 + (n % 10))] : List UInt8)).toArray⟩ : ByteArray) ++ out)), (0, .int .u64 n), (2, .string (⟨#[]⟩ : ByteArray))] (by kernel_rfl) rfl (ak (okp (by simp only [IntKind.max, IntKind.signed, IntKind.bits]; have hz : ((⟨(([u8of (48 + (n % 10))] : List UInt8)).toArray⟩ : ByteArray) : ByteArray).size = 1 := rfl; omega) ok0) ak0) ?_
    refine GoR.done (GoQ.thn ?_)
    refine GoC.regT [7, 7, 7] (.rd 0 (.rd 1 (.rd 2 .done))) (by kernel_rfl) (by kernel_rfl) ?_
    refine GoR.phaseK [(0, .gen []), (1, .div (n / 10)), (2, .gen [])] [0, 3, 2] [(1, [.prop (IntKind.u64 = IntKind.u64 ∧ (10 : Int) ≠ 0 ∧ IntKind.u64.wrap (Int.tdiv n 10) = n / 10)])] [(0, .int .u64 (n / 10)), (3, .string ((⟨(([u8of (48 + (n % 10))] : List UInt8)).toArray⟩ : ByteArray) ++ out)), (2, .string (⟨#[]⟩ : ByteArray))] (by kernel_rfl) rfl (ak (okp ⟨rfl, by decide, by rw [Int.tdiv_eq_ediv_of_nonneg (by omega)]; exact u64w (by omega) (by omega)⟩ ok0) ak0) ?_
    refine GoR.done (GoQ.blkN ?_)
    have hs12 : St w0 (L) w9 := hs10.drop 1
    exact GoQ.back (n / 10, (⟨(([u8of (48 + (n % 10))] : List UInt8)).toArray⟩ : ByteArray) ++ out) [0, 2, 3] (by kernel_rfl) (by show (n / 10).toNat + (if ((⟨(([u8of (48 + (n % 10))] : List UInt8)).toArray⟩ : ByteArray) ++ out) = ⟨#[]⟩ then 1 else 0) < n.toNat + (if out = ⟨#[]⟩ then 1 else 0); exact digits_mu hp.1.1 hgo) ⟨⟨by omega, by rw [dOut_step (by omega) hgo]; exact hp.2⟩, hs12⟩
  · have h7a : (decide ((n : Int) > 0)) = false := (Bool.or_eq_false_iff.1 h7).1
    have h7a' : ¬ ((n : Int) > 0) := of_decide_eq_false h7a
    have h7b : (decide (out = (⟨#[]⟩ : ByteArray))) = false := (Bool.or_eq_false_iff.1 h7).2
    have h7b' : ¬ (out = (⟨#[]⟩ : ByteArray)) := of_decide_eq_false h7b
    have hgo : n = 0 ∧ out ≠ ⟨#[]⟩ := by have h9 : ¬ (0 < n ∨ out = ⟨#[]⟩) := (by simpa using h7); exact ⟨by omega, fun e => h9 (.inr e)⟩
    refine GoC.exit (GoQ.skipC (GoQ.skipL (GoQ.hit (GoQ.thn (GoC.seq ?_)))))
    refine GoC.regT [3, 3] (.rd 0 (.rd 1 .done)) (by kernel_rfl) (by kernel_rfl) ?_
    refine GoR.phaseK [(0, .gen []), (1, .gen [])] [2] [] [(2, .string out)] (by kernel_rfl) rfl ak0 ?_
    refine GoR.done (GoQ.thn (GoC.ret ?_))
    refine GoQ.done (.inl rfl) (v := .string out) (fun a hf => results1 rfl (by kernel_rfl) a hf) ?_
    have hd : out = dec n0 := by
      have := hp.2
      rw [dOut, if_pos hgo] at this
      exact this
    subst hd
    exact ⟨rfl, hs6⟩
theorem num_spec {w0 w : World} {L : List Asn} (s : ByteArray) (hsz : s.size ≤ 281474976710656) (hs : St w0 (L) w) : Calls Tryd.prog 28 #[.string s] w (Ret fun rv w' => rv = .tuple #[.int .u64 ((num s).1), .bool ((num s).2)] ∧ St w0 (L) w') := by
  refine enter (args := [.string s]) Tryd.func28 rfl Tryd.ntmps28 (Nat.le_of_ble_eq_true (by kernel_rfl)) ?_
  refine GoC.slots (S' := [(0, .string s)]) rfl ?_
  refine GoC.seq ?_
  refine GoC.regT [3, 3] (.rd 0 (.rd 1 .done)) (by kernel_rfl) (by kernel_rfl) ?_
  refine GoR.phaseK [(0, .gen []), (1, .gen [])] [3, 2, 0] [] [(3, .bool false), (2, .int .u64 0), (0, .string s)] (by kernel_rfl) rfl ak0 ?_
  refine GoR.done (GoQ.thn (GoC.seq ?_))
  refine GoC.regT [1] (.rd 0 .done) (by kernel_rfl) (by kernel_rfl) ?_
  refine GoR.phaseK [(0, .gen [])] [4, 3, 2, 0] [] [(4, .int .u64 0), (3, .bool false), (2, .int .u64 0), (0, .string s)] (by kernel_rfl) rfl ak0 ?_
  refine GoR.done (GoQ.thn (GoC.seq (GoC.seq ?_)))
  refine GoC.join (T := Unit) (E := fun _ => [(13, .bool ((decide (((s.size : Nat) : Int) < 1)) || (decide (((s.size : Nat) : Int) > 16)))), (4, .int .u64 0), (3, .bool false), (2, .int .u64 0), (0, .string s)]) (F := fun _ w => St w0 (L) w) ?_ ?_
  · refine GoC.regT [255, 255, 255, 255, 255, 255, 255, 255] (.rd 0 (.rd 1 (.rd 2 (.rd 3 (.rd 4 (.rd 5 (.rd 6 (.rd 7 .done)))))))) (by kernel_rfl) (by kernel_rfl) ?_
    refine GoR.phaseK [(0, .gen []), (1, .gen []), (2, .gen []), (3, .gen [])] [9, 4, 3, 2, 0] [] [(9, .bool (decide (((s.size : Nat) : Int) < 1))), (4, .int .u64 0), (3, .bool false), (2, .int .u64 0), (0, .string s)] (by kernel_rfl) rfl ak0 ?_
    rcases Bool.eq_false_or_eq_true (decide (((s.size : Nat) : Int) < 1)) with h1 | h1
    · refine GoR.setB 9 true (by decide) (by kernel_rfl) h1 ?_
      have h1' : ((s.size : Nat) : Int) < 1 := of_decide_eq_true h1
      refine GoR.phaseK [(4, .gen []), (5, .gen []), (6, .gen []), (7, .gen [])] [13, 4, 3, 2, 0] [] [(13, .bool true), (4, .int .u64 0), (3, .bool false), (2, .int .u64 0), (0, .string s)] (by kernel_rfl) rfl ak0 ?_
      refine GoR.done ?_
      refine GoQ.pick [13, 4, 3, 2, 0] (S' := [(13, .bool true), (4, .int .u64 0), (3, .bool false), (2, .int .u64 0), (0, .string s)]) (by kernel_rfl) ?_
      exact GoQ.meet1 () (by first | rfl | (simp only [h1, Bool.not_true, Bool.not_false, Bool.true_or, Bool.false_or, Bool.true_and, Bool.false_and, Bool.or_true, Bool.or_false, Bool.and_true, Bool.and_false]; done) | (simp [h1]; done)) hs
    · refine GoR.setB 9 false (by decide) (by kernel_rfl) h1 ?_
      have h1' : ¬ (((s.size : Nat) : Int) < 1) := of_decide_eq_false h1
      refine GoR.phaseK [(4, .gen []), (5, .gen []), (6, .gen []), (7, .gen [])] [13, 4, 3, 2, 0] [] [(13, .bool (decide (((s.size : Nat) : Int) > 16))), (4, .int .u64 0), (3, .bool false), (2, .int .u64 0), (0, .string s)] (by kernel_rfl) rfl ak0 ?_
      refine GoR.done ?_
      refine GoQ.pick [13, 4, 3, 2, 0] (S' := [(13, .bool (decide (((s.size : Nat) : Int) > 16))), (4, .int .u64 0), (3, .bool false), (2, .int .u64 0), (0, .string s)]) (by kernel_rfl) ?_
      exact GoQ.meet1 () (by first | rfl | (simp only [h1, Bool.not_true, Bool.not_false, Bool.true_or, Bool.false_or, Bool.true_and, Bool.false_and, Bool.or_true, Bool.or_false, Bool.and_true, Bool.and_false]; done) | (simp [h1]; done)) hs
  intro _ w2 hs3
  refine GoQ.thn ?_
  refine GoC.cond (t := (decide (((s.size : Nat) : Int) < 1)) || (decide (((s.size : Nat) : Int) > 16))) (by kernel_rfl) (fun h4 => ?_) (fun h4 => ?_)
  · have hshort : s.size < 1 ∨ 16 < s.size := by simp only [Bool.or_eq_true, decide_eq_true_eq] at h4; omega
    refine GoC.seq ?_
    refine GoC.regT [3, 3] (.rd 0 (.rd 1 .done)) (by kernel_rfl) (by kernel_rfl) ?_
    refine GoR.phaseK [(0, .gen []), (1, .gen [])] [3, 2, 4, 0] [] [(3, .bool false), (2, .int .u64 0), (4, .int .u64 0), (0, .string s)] (by kernel_rfl) rfl ak0 ?_
    refine GoR.done (GoQ.thn (GoC.ret (GoQ.skipCR ?_)))
    refine GoQ.done (.inl rfl) (v := .tuple #[.int .u64 0, .bool false]) (fun a hf => results2 rfl (by kernel_rfl) (by kernel_rfl) a hf) ?_
    exact ⟨(by rw [num, if_neg (fun hc => by omega)]), hs3⟩
  · have h4a : (decide (((s.size : Nat) : Int) < 1)) = false := (Bool.or_eq_false_iff.1 h4).1
    have h4a' : ¬ (((s.size : Nat) : Int) < 1) := of_decide_eq_false h4a
    have h4b : (decide (((s.size : Nat) : Int) > 16)) = false := (Bool.or_eq_false_iff.1 h4).2
    have h4b' : ¬ (((s.size : Nat) : Int) > 16) := of_decide_eq_false h4b
    refine GoC.skip (GoQ.thn (GoC.seq (GoC.seq ?_)))
    refine GoC.regT [1] (.rd 0 .done) (by kernel_rfl) (by kernel_rfl) ?_
    refine GoR.phaseK [(0, .gen [])] [5, 4, 3, 2, 0] [] [(5, .int .i64 0), (4, .int .u64 0), (3, .bool false), (2, .int .u64 0), (0, .string s)] (by kernel_rfl) rfl ak0 ?_
    refine GoR.done (GoQ.thn (GoC.block ?_))
    refine GoC.loop (T := Nat × Int) (fun gg => [(0, .string s), (4, .int .u64 gg.2), (5, .int .i64 (gg.1 : Nat))]) (fun gg w => ((gg.1 ≤ s.size ∧ gg.2 = (nvl (s.data.toList.take gg.1) : Nat)) ∧ (s.data.toList.take gg.1).all isDig = true) ∧ St w0 (L) w) (fun gg => s.size - gg.1) (0, 0) [0, 4, 5] (by kernel_rfl) ⟨⟨⟨Nat.zero_le _, rfl⟩, rfl⟩, hs3⟩ ?_
    rintro ⟨k, n⟩ w5 ⟨hp0, hs6⟩
    have hp : (k ≤ s.size ∧ n = (nvl (s.data.toList.take k) : Nat)) ∧ (s.data.toList.take k).all isDig = true := hp0
    have hs7 : St w0 (L) w5 := hs6
    refine GoC.slots (S' := [(0, .string s), (4, .int .u64 n), (5, .int .i64 (k : Nat))]) rfl ?_
    refine GoC.seq (GoC.seq ?_)
    refine GoC.regT [15, 15, 15, 15] (.rd 0 (.rd 1 (.rd 2 (.rd 3 .done)))) (by kernel_rfl) (by kernel_rfl) ?_
    refine GoR.phaseK [(0, .gen []), (1, .gen []), (2, .gen []), (3, .gen [])] [17, 0, 4, 5] [] [(17, .bool (decide (((k : Nat) : Int) < (s.size : Nat)))), (0, .string s), (4, .int .u64 n), (5, .int .i64 (k : Nat))] (by kernel_rfl) rfl ak0 ?_
    refine GoR.done (GoQ.thn ?_)
    refine GoC.cond (t := decide (((k : Nat) : Int) < (s.size : Nat))) (by kernel_rfl) (fun h8 => ?_) (fun h8 => ?_)
    · have h8' : ((k : Nat) : Int) < (s.size : Nat) := of_decide_eq_true h8
      have hk : k < s.size := by omega
      have hkl : k < s.data.toList.length := hk
      have hb := bat_lt s k
      have hnv := nvl_lt hp.2
      have hln : (s.data.toList.take k).length ≤ 15 := by rw [List.length_take]; omega
      have hpw : 10 ^ (s.data.toList.take k).length ≤ 10 ^ 15 := Nat.pow_le_pow_right (by decide) hln
      have hn9 := hp.1.2
      refine GoC.skip (GoQ.thn (GoC.seq (GoC.block (GoC.seq (GoC.seq ?_)))))
      refine GoC.join (T := Unit) (E := fun _ => [(29, .bool ((decide (((bat s k : Nat) : Int) < 48)) || (decide (((bat s k : Nat) : Int) > 57)))), (0, .string s), (4, .int .u64 n), (5, .int .i64 (k : Nat))]) (F := fun _ w => St w0 (L) w) ?_ ?_
      · refine GoC.regT [1023, 1023, 1023, 1023, 1023, 1023, 1023, 1023, 1023, 1023] (.rd 0 (.rd 1 (.rd 2 (.rd 3 (.rd 4 (.rd 5 (.rd 6 (.rd 7 (.rd 8 (.rd 9 .done)))))))))) (by kernel_rfl) (by kernel_rfl) ?_
        refine GoR.phaseK [(0, .gen []), (1, .gen []), (2, .as_ (.int .u8 (bat s k : Nat)) (.byte (s.data.getD k 0))), (3, .gen []), (4, .gen [])] [24, 0, 4, 5] [(2, [.prop (0 ≤ ((k : Nat) : Int) ∧ s[((k : Nat) : Int).toNat]? = some (s.data.getD k 0)), .prop (Value.int .u8 ((s.data.getD k 0).toNat : Int) = Value.int .u8 (bat s k : Nat))])] [(24, .bool (decide (((bat s k : Nat) : Int) < 48))), (0, .string s), (4, .int .u64 n), (5, .int .i64 (k : Nat))] (by kernel_rfl) rfl (ak (okp (batOk (by omega) (by omega)) (okp rfl ok0)) ak0) ?_
        rcases Bool.eq_false_or_eq_true (decide (((bat s k : Nat) : Int) < 48)) with h9 | h9
        · refine GoR.setB 24 true (by decide) (by kernel_rfl) h9 ?_
          have h9' : ((bat s k : Nat) : Int) < 48 := of_decide_eq_true h9
          refine GoR.phaseK [(5, .gen []), (6, .gen []), (7, .gen []), (8, .gen []), (9, .gen [])] [29, 0, 4, 5] [] [(29, .bool true), (0, .string s), (4, .int .u64 n), (5, .int .i64 (k : Nat))] (by kernel_rfl) rfl ak0 ?_
          refine GoR.done ?_
          refine GoQ.pick [29, 0, 4, 5] (S' := [(29, .bool true), (0, .string s), (4, .int .u64 n), (5, .int .i64 (k : Nat))]) (by kernel_rfl) ?_
          exact GoQ.meet1 () (by first | rfl | (simp only [h9, Bool.not_true, Bool.not_false, Bool.true_or, Bool.false_or, Bool.true_and, Bool.false_and, Bool.or_true, Bool.or_false, Bool.and_true, Bool.and_false]; done) | (simp [h9]; done)) hs7
        · refine GoR.setB 24 false (by decide) (by kernel_rfl) h9 ?_
          have h9' : ¬ (((bat s k : Nat) : Int) < 48) := of_decide_eq_false h9
          refine GoR.phaseK [(5, .gen []), (6, .gen []), (7, .as_ (.int .u8 (bat s k : Nat)) (.byte (s.data.getD k 0))), (8, .gen []), (9, .gen [])] [29, 0, 4, 5] [(7, [.prop (0 ≤ ((k : Nat) : Int) ∧ s[((k : Nat) : Int).toNat]? = some (s.data.getD k 0)), .prop (Value.int .u8 ((s.data.getD k 0).toNat : Int) = Value.int .u8 (bat s k : Nat))])] [(29, .bool (decide (((bat s k : Nat) : Int) > 57))), (0, .string s), (4, .int .u64 n), (5, .int .i64 (k : Nat))] (by kernel_rfl) rfl (ak (okp (batOk (by omega) (by omega)) (okp rfl ok0)) ak0) ?_
          refine GoR.done ?_
          refine GoQ.pick [29, 0, 4, 5] (S' := [(29, .bool (decide (((bat s k : Nat) : Int) > 57))), (0, .string s), (4, .int .u64 n), (5, .int .i64 (k : Nat))]) (by kernel_rfl) ?_
          exact GoQ.meet1 () (by first | rfl | (simp only [h9, Bool.not_true, Bool.not_false, Bool.true_or, Bool.false_or, Bool.true_and, Bool.false_and, Bool.or_true, Bool.or_false, Bool.and_true, Bool.and_false]; done) | (simp [h9]; done)) hs7
      intro _ w10 hs11
      refine GoQ.thn ?_
      refine GoC.cond (t := (decide (((bat s k : Nat) : Int) < 48)) || (decide (((bat s k : Nat) : Int) > 57))) (by kernel_rfl) (fun h12 => ?_) (fun h12 => ?_)
      · refine GoC.seq ?_
        refine GoC.regT [3, 3] (.rd 0 (.rd 1 .done)) (by kernel_rfl) (by kernel_rfl) ?_
        refine GoR.phaseK [(0, .gen []), (1, .gen [])] [3, 2, 0, 4, 5] [] [(3, .bool false), (2, .int .u64 0), (0, .string s), (4, .int .u64 n), (5, .int .i64 (k : Nat))] (by kernel_rfl) rfl ak0 ?_
        refine GoR.done (GoQ.thn (GoC.ret (GoQ.skipCR (GoQ.blkR (GoQ.skipCR (GoQ.skipLR (GoQ.blkR (GoQ.skipCR ?_))))))))
        refine GoQ.done (.inl rfl) (v := .tuple #[.int .u64 0, .bool false]) (fun a hf => results2 rfl (by kernel_rfl) (by kernel_rfl) a hf) ?_
        exact ⟨(by rw [num_bad hkl (by simp only [Bool.or_eq_true, decide_eq_true_eq] at h12; omega)]), hs11⟩
      · have h12a : (decide (((bat s k : Nat) : Int) < 48)) = false := (Bool.or_eq_false_iff.1 h12).1
        have h12a' : ¬ (((bat s k : Nat) : Int) < 48) := of_decide_eq_false h12a
        have h12b : (decide (((bat s k : Nat) : Int) > 57)) = false := (Bool.or_eq_false_iff.1 h12).2
        have h12b' : ¬ (((bat s k : Nat) : Int) > 57) := of_decide_eq_false h12b
        refine GoC.skip (GoQ.thn ?_)
        refine GoC.regT [511, 511, 511, 511, 511, 511, 511, 511, 511] (.rd 0 (.rd 1 (.rd 2 (.rd 3 (.rd 4 (.rd 5 (.rd 6 (.rd 7 (.rd 8 .done))))))))) (by kernel_rfl) (by kernel_rfl) ?_
        refine GoR.phaseK [(0, .gen []), (1, .as_ (.int .u64 (10 * n)) (.gen [])), (2, .gen []), (3, .gen []), (4, .as_ (.int .u8 (bat s k : Nat)) (.byte (s.data.getD k 0))), (5, .as_ (.int .u8 ((bat s k : Nat) - 48)) (.gen [])), (6, .as_ (.int .u64 ((bat s k : Nat) - 48)) (.gen [])), (7, .as_ (.int .u64 ((10 * n) + ((bat s k : Nat) - 48))) (.gen [])), (8, .gen [])] [4, 0, 5] [(1, [.prop (Value.int .u64 (IntKind.u64.wrap (10 * n)) = Value.int .u64 (10 * n))]), (4, [.prop (0 ≤ ((k : Nat) : Int) ∧ s[((k : Nat) : Int).toNat]? = some (s.data.getD k 0)), .prop (Value.int .u8 ((s.data.getD k 0).toNat : Int) = Value.int .u8 (bat s k : Nat))]), (5, [.prop (Value.int .u8 (IntKind.u8.wrap ((bat s k : Nat) - 48)) = Value.int .u8 ((bat s k : Nat) - 48))]), (6, [.prop (Value.int .u64 (IntKind.u64.wrap ((bat s k : Nat) - 48)) = Value.int .u64 ((bat s k : Nat) - 48))]), (7, [.prop (Value.int .u64 (IntKind.u64.wrap ((10 * n) + ((bat s k : Nat) - 48))) = Value.int .u64 ((10 * n) + ((bat s k : Nat) - 48)))])] [(4, .int .u64 ((10 * n) + ((bat s k : Nat) - 48))), (0, .string s), (5, .int .i64 (k : Nat))] (by kernel_rfl) rfl (ak (okp (u64ok (by omega) (by omega)) ok0) (ak (okp (batOk (by omega) (by omega)) (okp rfl ok0)) (ak (okp (u8ok (by omega) (by omega)) ok0) (ak (okp (u64ok (by omega) (by omega)) ok0) (ak (okp (u64ok (by omega) (by omega)) ok0) ak0))))) ?_
        refine GoR.done (GoQ.blkN (GoQ.thn ?_))
        refine GoC.regT [7, 7, 7] (.rd 0 (.rd 1 (.rd 2 .done))) (by kernel_rfl) (by kernel_rfl) ?_
        refine GoR.phaseK [(0, .gen []), (1, .as_ (.int .i64 ((k : Nat) + 1)) (.gen [])), (2, .gen [])] [5, 4, 0] [(1, [.prop (Value.int .i64 (IntKind.i64.wrap ((k : Nat) + 1)) = Value.int .i64 ((k : Nat) + 1))])] [(5, .int .i64 ((k : Nat) + 1)), (4, .int .u64 ((10 * n) + ((bat s k : Nat) - 48))), (0, .string s)] (by kernel_rfl) rfl (ak (okp (i64ok (by omega) (by omega)) ok0) ak0) ?_
        refine GoR.done ?_
        have hn2 : (10 * n) + ((bat s k : Nat) - 48) = ((nvl (s.data.toList.take (k + 1)) : Nat) : Int) := by
          rw [take_succ_getD (d := 0) hkl, nvl_snoc, ← bat_list]
          omega
        have ha2 : (s.data.toList.take (k + 1)).all isDig = true := by
          rw [take_succ_getD (d := 0) hkl, List.all_append, hp.2]
          simp only [List.all_cons, List.all_nil, Bool.and_true, Bool.true_and, isDig, Bool.and_eq_true, decide_eq_true_eq, ← bat_list]
          omega
        exact GoQ.back (k + 1, (10 * n) + ((bat s k : Nat) - 48)) [0, 4, 5] (by kernel_rfl) (by show s.size - (k + 1) < s.size - k; omega) ⟨⟨⟨by omega, hn2⟩, ha2⟩, hs11⟩
    · have h8' : ¬ (((k : Nat) : Int) < (s.size : Nat)) := of_decide_eq_false h8
      have hall : s.data.toList.take k = s.data.toList := List.take_of_length_le (by rw [size_list]; omega)
      have hp1 := hp.1.2
      have hp2 := hp.2
      rw [hall] at hp1 hp2
      have hnv := nvl_lt hp2
      have hpw : 10 ^ s.data.toList.length ≤ 10 ^ 16 := Nat.pow_le_pow_right (by decide) (by rw [size_list]; omega)
      have hns : num s = (n, decide (n ≤ 1125899906842624) && decide (dec n = s)) := by rw [num, if_pos ⟨by omega, by omega, hp2⟩, ← hp1]
      refine GoC.exit (GoQ.skipC (GoQ.skipL (GoQ.hit (GoQ.thn (GoC.seq ?_)))))
      refine GoC.regT [2047, 2047, 2047, 2047, 2047, 2047, 2047, 2047, 2047, 2047, 2047] (.rd 0 (.rd 1 (.rd 2 (.rd 3 (.rd 4 (.ef 5 (.rd 6 (.rd 7 (.rd 8 (.rd 9 (.rd 10 .done))))))))))) (by kernel_rfl) (by kernel_rfl) ?_
      refine GoR.phaseK [(0, .gen []), (1, .gen []), (2, .gen []), (3, .gen [])] [41, 38, 0, 4] [] [(41, .bool (decide ((n : Int) ≤ 1125899906842624))), (38, .int .u64 n), (0, .string s), (4, .int .u64 n)] (by kernel_rfl) rfl ak0 ?_
      rcases Bool.eq_false_or_eq_true (decide ((n : Int) ≤ 1125899906842624)) with h13 | h13
      · refine GoR.setB 41 true (by decide) (by kernel_rfl) h13 ?_
        have h13' : (n : Int) ≤ 1125899906842624 := of_decide_eq_true h13
        refine GoR.phaseK [(4, .gen [])] [42, 41, 38, 0] [] [(42, .int .u64 n), (41, .bool true), (38, .int .u64 n), (0, .string s)] (by kernel_rfl) rfl ak0 ?_
        refine GoR.call rfl rfl (by kernel_rfl) (f := 47) (args := #[.int .u64 n]) (by kernel_rfl) Tryd.call47 (digits_spec n (by first | assumption | omega) (by first | assumption | omega) hs7) ?_
        rintro v15 w16 ⟨rfl, hs14⟩
        refine ⟨(opn (by kernel_rfl)), ?_⟩
        refine GoR.phaseK [(6, .gen []), (7, .as_ (.bool (decide ((dec n) = s))) (.gen [])), (8, .gen []), (9, .gen []), (10, .gen [])] [3, 2] [(7, [.prop (Value.bool ((dec n).toList == s.toList) = Value.bool (decide ((dec n) = s)))])] [(3, .bool (decide ((dec n) = s))), (2, .int .u64 n)] (by kernel_rfl) rfl (ak (okp (seq _ _) ok0) ak0) ?_
        refine GoR.done (GoQ.thn (GoC.ret ?_))
        refine GoQ.done (.inl rfl) (v := .tuple #[.int .u64 n, .bool (decide ((dec n) = s))]) (fun a hf => results2 rfl (by kernel_rfl) (by kernel_rfl) a hf) ?_
        exact ⟨(by rw [hns]; first | rfl | (simp_all; done) | (simp_all; intros; omega)), hs14⟩
      · refine GoR.setB 41 false (by decide) (by kernel_rfl) h13 ?_
        have h13' : ¬ ((n : Int) ≤ 1125899906842624) := of_decide_eq_false h13
        refine GoR.phaseK [(4, .gen [])] [42, 41, 38, 0] [] [(42, undef), (41, .bool false), (38, .int .u64 n), (0, .string s)] (by kernel_rfl) rfl ak0 ?_
        refine GoR.skip rfl (by kernel_rfl) (opn (by kernel_rfl)) ?_
        refine GoR.phaseK [(6, .gen []), (7, .gen []), (8, .gen []), (9, .gen []), (10, .gen [])] [3, 2] [] [(3, .bool false), (2, .int .u64 n)] (by kernel_rfl) rfl ak0 ?_
        refine GoR.done (GoQ.thn (GoC.ret ?_))
        refine GoQ.done (.inl rfl) (v := .tuple #[.int .u64 n, .bool false]) (fun a hf => results2 rfl (by kernel_rfl) (by kernel_rfl) a hf) ?_
        exact ⟨(by rw [hns]; first | rfl | (simp_all; done) | (simp_all; intros; omega)), hs7⟩
end Go.Proofs.YtkeckbgkhpaofaaDoor
