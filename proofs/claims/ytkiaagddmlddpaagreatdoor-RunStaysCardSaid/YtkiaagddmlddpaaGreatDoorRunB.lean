/-
  Digests of states; rows of requests held against each other. Conditions: none beside each theorem's own.
-/
import Derived.Test.YtkiaagddmlddpaaGreatDoorRunA
import Derived.Test.YtkiaagddmlddpaaGreatDoorStaB
namespace Go.Proofs.YtkiaagddmlddpaaGreatDoor
open Go.RowKit Go.Sx
set_option linter.unusedVariables false
set_option linter.unusedSimpArgs false
set_option linter.unnecessarySimpa false
set_option maxRecDepth 100000
theorem shaSumV_spec {w0 w : World} {L : List Asn} {ad : Option Addr} {c : Nat} (l : List Int) (hcap : l.length ≤ c) (hl : l.length ≤ 1000000000000) (hT : ∀ w, St w0 L w → TabR w) (hr : ∀ w, St w0 L w → RowsAt w ad l.length 1 (fun k => byteC (l.getD k (0 : Int)))) (hs : St w0 L w) :
    Calls Tryz.prog 21 #[.slice ad l.length c] w (Ret fun rv w' => rv = .agg (D32.cells (digV l)) ∧ St w0 L w') := by
  rw [← digC]
  exact shaSum_spec l hcap hl hT hr hs
theorem St.tab {W w : World} {L : List Asn} (hs : St W L w) {j : Nat} (hj : L[j]? = some (Base W)) (hT : TabR W) : TabR w := RowsAt.base hT (fun k _ => w32F.size _) hs j hj
theorem flat_bound {α : Type} {F : α → List Int} {B : Nat} : ∀ {l : List α}, (∀ x ∈ l, (F x).length ≤ B) → (l.flatMap F).length ≤ B * l.length
  | [], _ => by simp
  | x :: l, h => by
    have h1 := h x (List.mem_cons_self ..)
    have h2 := flat_bound (l := l) fun y hy => h y (List.mem_cons_of_mem _ hy)
    rw [List.flatMap_cons, List.length_append, List.length_cons, Nat.mul_add, Nat.mul_one]
    omega
theorem tail_bound {cnt : Int} {tl : List LastV} {l : List ItemV} (hl : tl.length = 8) (hT : ∀ x ∈ tl, LastS x) (hln : l.length ≤ 64) (hit : ∀ x ∈ l, ItemS x) : (wd cnt ++ tailB tl l).length ≤ 1000000000000 := by
  have h1 := flat_bound (F := lastB) (B := 200) (l := tl) fun x hx => by
    have := (hT x hx).2.2
    simp only [lastB, List.length_append, wd_length, txtB_length]; omega
  have h2 := flat_bound (F := itemB) (B := 300) (l := l) fun x hx => by
    have h3 := (hit x hx).1
    have h4 := (hit x hx).2
    simp only [itemB, List.length_append, txtB_length]; omega
  simp only [tailB, List.length_append, wd_length]
  omega
theorem stDig_spec {w0 w : World} {L : List Asn} {s : Nat} {p : Nat} {q : Nat} {g : Nat} (tl : List LastV) (m : List (ByteArray × ByteArray)) (cnt : Int) (hl : tl.length = 8) (hm : m.length ≤ 4294967296) (hT : ∀ x ∈ tl, LastS x) (hln : (lst m).length ≤ 64) (hit : ∀ x ∈ lst m, ItemS x) (hc : 0 ≤ cnt ∧ cnt ≤ 1000000) (hTab : ∀ w, St w0 L w → TabR w) (hs : St w0 ((Cel s #[.pointer (some ⟨q, 0, none⟩), .pointer (some ⟨p, 0, none⟩), .int .u64 cnt] 69) :: (Cel p (arrCells LastV.cells tl) 90) :: (Cel q #[.map (some g)] 87) :: (MapA Value.string Value.string g m) :: L) w) : Calls Tryz.prog 11 #[.pointer (some ⟨s, 0, none⟩)] w (Ret fun rv w' => rv = .agg (D32.cells (digV (wd cnt ++ tailB tl (lst m)))) ∧ St w0 ((Cel s #[.pointer (some ⟨q, 0, none⟩), .pointer (some ⟨p, 0, none⟩), .int .u64 cnt] 69) :: (Cel p (arrCells LastV.cells tl) 90) :: (Cel q #[.map (some g)] 87) :: (MapA Value.string Value.string g m) :: L) w') := by
  refine enter (args := [.pointer (some ⟨s, 0, none⟩)]) Tryz.func11 rfl Tryz.ntmps11 (Nat.le_of_ble_eq_true (by kernel_rfl)) ?_
  refine GoC.slots (S' := [(0, .pointer (some ⟨s, 0, none⟩))]) rfl ?_
  refine GoC.seq ?_
  refine GoC.regT [1] (.ef 0 .done) (by kernel_rfl) (by kernel_rfl) ?_
  refine GoR.alloc rfl rfl (by kernel_rfl) (z := .agg (D32.cells dD32)) (by kernel_rfl) hs (cs := D32.cells dD32) (by kernel_rfl) ?_
  intro b1 w2 hs3
  refine ⟨(opn (by kernel_rfl)), ?_⟩
  refine GoR.done (GoQ.thn (GoC.seq (GoC.seq ?_)))
  refine GoC.regT [3, 3] (.rd 0 (.rd 1 .done)) (by kernel_rfl) (by kernel_rfl) ?_
  refine GoR.phaseK [(0, .gen []), (1, .gen [])] [4, 2, 0] [] [(4, .bool false), (2, .pointer (some ⟨b1, 0, none⟩)), (0, .pointer (some ⟨s, 0, none⟩))] (by kernel_rfl) rfl ak0 ?_
  refine GoR.done (GoQ.thn (GoC.condF (by kernel_rfl) (GoC.skip (GoQ.thn (GoC.seq ?_)))))
  refine GoC.regT [15, 15, 15, 15] (.rd 0 (.ef 1 (.ef 2 (.ef 3 .done)))) (by kernel_rfl) (by kernel_rfl) ?_
  refine GoR.phaseK [(0, .gen [])] [6, 2] [] [(6, .pointer (some ⟨s, 0, none⟩)), (2, .pointer (some ⟨b1, 0, none⟩))] (by kernel_rfl) rfl ak0 ?_
  have hs4 : St w0 ((Cel s #[.pointer (some ⟨q, 0, none⟩), .pointer (some ⟨p, 0, none⟩), .int .u64 cnt] 69) :: (Cel p (arrCells LastV.cells tl) 90) :: (Cel q #[.map (some g)] 87) :: (MapA Value.string Value.string g m) :: (Cel b1 (D32.cells dD32) 34) :: L) w2 := ((((hs3.pull 4 rfl).pull 4 rfl).pull 4 rfl).pull 4 rfl)
  refine GoR.call rfl rfl (by kernel_rfl) (f := 15) (args := #[.pointer (some ⟨s, 0, none⟩)]) (by kernel_rfl) Tryz.call15 (bytes_spec tl m cnt (by first | assumption | omega) (by first | assumption | omega) (by first | assumption | omega) (by first | assumption | omega) (by first | assumption | omega) (by first | assumption | omega) hs4) ?_
  rintro v8 w9 ⟨ad5, c6, rfl, hs7⟩
  refine ⟨(opn (by kernel_rfl)), ?_⟩
  refine GoR.call rfl rfl (by kernel_rfl) (f := 21) (args := #[.slice ad5 ((wd cnt ++ tailB tl (lst m)).length) c6]) (by kernel_rfl) Tryz.call21 (shaSumV_spec (wd cnt ++ tailB tl (lst m)) (Sl.cap (hs7.at_ 0 rfl)) (tail_bound hl hT hln hit) (fun w h => hTab w (h.drop 6)) (fun w h => h.rows 0 rfl (byteF).size _) hs7) ?_
  rintro v11 w12 ⟨rfl, hs10⟩
  refine ⟨(opn (by kernel_rfl)), ?_⟩
  refine GoR.store rfl rfl (by kernel_rfl) (b := b1) (off := 0) (v := .agg (D32.cells (digV (wd cnt ++ tailB tl (lst m))))) (by kernel_rfl) (by kernel_rfl) (ti := Tryz.t34) (by kernel_rfl) hs10 5 rfl (by kernel_rfl) (by kernel_rfl) (Nat.le_of_ble_eq_true (by kernel_rfl)) (cs' := D32.cells (digV (wd cnt ++ tailB tl (lst m)))) (L' := (Sl ad5 c6 5 1 byteC (wd cnt ++ tailB tl (lst m))) :: (Cel s #[.pointer (some ⟨q, 0, none⟩), .pointer (some ⟨p, 0, none⟩), .int .u64 cnt] 69) :: (Cel p (arrCells LastV.cells tl) 90) :: (Cel q #[.map (some g)] 87) :: (MapA Value.string Value.string g m) :: (Cel b1 (D32.cells (digV (wd cnt ++ tailB tl (lst m)))) 34) :: L) (by kernel_rfl) rfl ?_
  intro w13 hs14
  refine ⟨(opn (by kernel_rfl)), ?_⟩
  refine GoR.done (GoQ.thn (GoC.ret ?_))
  refine GoQ.done (.inl rfl) (v := .agg (D32.cells (digV (wd cnt ++ tailB tl (lst m))))) (fun a hf => resultsA rfl (by kernel_rfl) (ti := Tryz.t34) (by kernel_rfl) (by kernel_rfl) (vs := (D32.cells (digV (wd cnt ++ tailB tl (lst m))))) (by kernel_rfl) (hs14.cells 5 0 rfl (by kernel_rfl)) a hf) ?_
  have hs15 : St w0 ((Sl ad5 c6 5 1 byteC (wd cnt ++ tailB tl (lst m))) :: (Cel b1 (D32.cells (digV (wd cnt ++ tailB tl (lst m)))) 34) :: (Cel s #[.pointer (some ⟨q, 0, none⟩), .pointer (some ⟨p, 0, none⟩), .int .u64 cnt] 69) :: (Cel p (arrCells LastV.cells tl) 90) :: (Cel q #[.map (some g)] 87) :: (MapA Value.string Value.string g m) :: L) w13 := ((((((hs14.pull 4 rfl).pull 4 rfl).pull 4 rfl).pull 4 rfl).pull 5 rfl).pull 5 rfl)
  have hs16 : St w0 ((Cel s #[.pointer (some ⟨q, 0, none⟩), .pointer (some ⟨p, 0, none⟩), .int .u64 cnt] 69) :: (Cel p (arrCells LastV.cells tl) 90) :: (Cel q #[.map (some g)] 87) :: (MapA Value.string Value.string g m) :: L) w13 := hs15.drop 2
  exact ⟨rfl, hs16⟩
theorem take_step {x y : List ReqV} {k : Nat} (hk : k < x.length) (hky : k < y.length) (h : x.take k = y.take k) (he : x.getD k dReq = y.getD k dReq) : x.take (k + 1) = y.take (k + 1) := by
  rw [take_succ_getD (d := dReq) hk, take_succ_getD (d := dReq) hky, h, he]
theorem eqReq_spec {w0 w : World} {L : List Asn} {ax : Option Addr} {cx : Nat} {ay : Option Addr} {cy : Nat} (x : List ReqV) (y : List ReqV) (hx : x.length ≤ 1100000000000) (hy : y.length ≤ 1100000000000) (hr1 : ∀ w, St w0 L w → RowsAt w ax x.length 40 (fun k => ReqV.cells (x.getD k dReq))) (hr2 : ∀ w, St w0 L w → RowsAt w ay y.length 40 (fun k => ReqV.cells (y.getD k dReq))) (hs : St w0 (L) w) : Calls Tryz.prog 18 #[.slice ax x.length cx, .slice ay y.length cy] w (Ret fun rv w' => rv = .bool (decide (x = y)) ∧ St w0 (L) w') := by
  refine enter (args := [.slice ax x.length cx, .slice ay y.length cy]) Tryz.func18 rfl Tryz.ntmps18 (Nat.le_of_ble_eq_true (by kernel_rfl)) ?_
  refine GoC.slots (S' := [(0, .slice ax x.length cx), (1, .slice ay y.length cy)]) rfl ?_
  refine GoC.seq ?_
  refine GoC.regT [1] (.rd 0 .done) (by kernel_rfl) (by kernel_rfl) ?_
  refine GoR.phaseK [(0, .gen [])] [4, 0, 1] [] [(4, .bool false), (0, .slice ax x.length cx), (1, .slice ay y.length cy)] (by kernel_rfl) rfl ak0 ?_
  refine GoR.done (GoQ.thn (GoC.seq (GoC.seq ?_)))
  refine GoC.regT [31, 31, 31, 31, 31] (.rd 0 (.rd 1 (.rd 2 (.rd 3 (.rd 4 .done))))) (by kernel_rfl) (by kernel_rfl) ?_
  refine GoR.phaseK [(0, .gen []), (1, .gen []), (2, .gen []), (3, .gen []), (4, .gen [])] [10, 4, 0, 1] [] [(10, .bool (((x.length : Nat) : Int) != (y.length : Nat))), (4, .bool false), (0, .slice ax x.length cx), (1, .slice ay y.length cy)] (by kernel_rfl) rfl ak0 ?_
  refine GoR.done (GoQ.thn ?_)
  refine GoC.cond (t := ((x.length : Nat) : Int) != (y.length : Nat)) (by kernel_rfl) (fun h1 => ?_) (fun h1 => ?_)
  · have h1' : ¬ (((x.length : Nat) : Int) = (y.length : Nat)) := ineT h1
    have hne : ¬ x = y := fun e => by rw [e] at h1'; omega
    refine GoC.seq ?_
    refine GoC.regT [1] (.rd 0 .done) (by kernel_rfl) (by kernel_rfl) ?_
    refine GoR.phaseK [(0, .gen [])] [4, 0, 1] [] [(4, .bool false), (0, .slice ax x.length cx), (1, .slice ay y.length cy)] (by kernel_rfl) rfl ak0 ?_
    refine GoR.done (GoQ.thn (GoC.ret (GoQ.skipCR ?_)))
    refine GoQ.done (.inl rfl) (v := .bool false) (fun a hf => results1 rfl (by kernel_rfl) a hf) ?_
    exact ⟨(by rw [decide_eq_false hne]), hs⟩
  · have h1' : ((x.length : Nat) : Int) = (y.length : Nat) := ineF h1
    have hxy : x.length = y.length := by omega
    refine GoC.skip (GoQ.thn (GoC.seq (GoC.seq ?_)))
    refine GoC.regT [7, 7, 7] (.rd 0 (.rd 1 (.rd 2 .done))) (by kernel_rfl) (by kernel_rfl) ?_
    refine GoR.phaseK [(0, .gen []), (1, .gen []), (2, .gen [])] [13, 12, 4, 0, 1] [] [(13, .int .i64 0), (12, .int .i64 (x.length : Nat)), (4, .bool false), (0, .slice ax x.length cx), (1, .slice ay y.length cy)] (by kernel_rfl) rfl ak0 ?_
    refine GoR.done (GoQ.thn (GoC.block ?_))
    refine GoC.loop (T := Nat) (fun gg => [(0, .slice ax x.length cx), (1, .slice ay y.length cy), (12, .int .i64 (x.length : Nat)), (13, .int .i64 (gg : Nat))]) (fun gg w => (gg ≤ x.length ∧ x.take gg = y.take gg) ∧ St w0 (L) w) (fun gg => x.length - gg) 0 [0, 1, 12, 13] (by kernel_rfl) ⟨⟨Nat.zero_le _, rfl⟩, hs⟩ ?_
    rintro k w2 ⟨hp0, hs3⟩
    have hp : k ≤ x.length ∧ x.take k = y.take k := hp0
    have hs4 : St w0 (L) w2 := hs3
    refine GoC.slots (S' := [(0, .slice ax x.length cx), (1, .slice ay y.length cy), (12, .int .i64 (x.length : Nat)), (13, .int .i64 (k : Nat))]) rfl ?_
    refine GoC.seq ?_
    refine GoC.regT [1] (.rd 0 .done) (by kernel_rfl) (by kernel_rfl) ?_
    refine GoR.phaseK [(0, .gen [])] [14, 0, 1, 12, 13] [] [(14, .bool (decide (((k : Nat) : Int) < (x.length : Nat)))), (0, .slice ax x.length cx), (1, .slice ay y.length cy), (12, .int .i64 (x.length : Nat)), (13, .int .i64 (k : Nat))] (by kernel_rfl) rfl ak0 ?_
    refine GoR.done (GoQ.thn (GoC.seq ?_))
    refine GoC.cond (t := decide (((k : Nat) : Int) < (x.length : Nat))) (by kernel_rfl) (fun h5 => ?_) (fun h5 => ?_)
    · have h5' : ((k : Nat) : Int) < (x.length : Nat) := of_decide_eq_true h5
      have hk : k < x.length := by omega
      have hky : k < y.length := by omega
      obtain ⟨ab6, ao7, rfl⟩ := RowsAt.isSome (hr1 _ (hs4.drop 0)) (by omega)
      obtain ⟨ab8, ao9, rfl⟩ := RowsAt.isSome (hr2 _ (hs4.drop 0)) (by omega)
      refine GoC.skip (GoQ.thn (GoC.seq (GoC.block (GoC.seq ?_))))
      refine GoC.regT [3, 3] (.rd 0 (.rd 1 .done)) (by kernel_rfl) (by kernel_rfl) ?_
      refine GoR.phaseK [(0, .gen []), (1, .gen [])] [5, 0, 1, 12, 13] [] [(5, .int .i64 (k : Nat)), (0, .slice (some ⟨ab6, ao7, none⟩) x.length cx), (1, .slice (some ⟨ab8, ao9, none⟩) y.length cy), (12, .int .i64 (x.length : Nat)), (13, .int .i64 (k : Nat))] (by kernel_rfl) rfl ak0 ?_
      refine GoR.done (GoQ.thn (GoC.seq ?_))
      refine GoC.regD [0, 0, 3, 7, 0, 0, 48, 112, 255] (.rd 0 (.rd 1 (.rd 2 (.rd 3 (.rd 4 (.rd 5 (.rd 6 (.rd 7 (.rd 8 .done))))))))) (by kernel_rfl) (by kernel_rfl) noPan_body (by kernel_rfl) hs4 ?_
      intro w10 hs11 hw12
      refine GoR.phaseK [(0, .gen []), (1, .gen []), (2, .as_ (.pointer (some ⟨ab6, ao7 + (k * 40), none⟩)) .at_), (3, .agg (ReqV.cells (x.getD k dReq))), (4, .gen []), (5, .gen []), (6, .as_ (.pointer (some ⟨ab8, ao9 + (k * 40), none⟩)) .at_), (7, .agg (ReqV.cells (y.getD k dReq)))] [23, 19, 0, 1, 12, 13] [(2, [.prop (0 ≤ ((k : Nat) : Int) ∧ ((k : Nat) : Int) < ((x.length : Nat) : Int)), .prop (Value.pointer (some (Addr.add ⟨ab6, ao7, none⟩ (Int.toNat (k : Nat) * 40))) = Value.pointer (some ⟨ab6, ao7 + (k * 40), none⟩))]), (3, [.prop (Array.size (ReqV.cells (x.getD k dReq)) = 40), .cells ⟨ab6, ao7 + (k * 40), none⟩ (ReqV.cells (x.getD k dReq))]), (6, [.prop (0 ≤ ((k : Nat) : Int) ∧ ((k : Nat) : Int) < ((y.length : Nat) : Int)), .prop (Value.pointer (some (Addr.add ⟨ab8, ao9, none⟩ (Int.toNat (k : Nat) * 40))) = Value.pointer (some ⟨ab8, ao9 + (k * 40), none⟩))]), (7, [.prop (Array.size (ReqV.cells (y.getD k dReq)) = 40), .cells ⟨ab8, ao9 + (k * 40), none⟩ (ReqV.cells (y.getD k dReq))])] [(23, .agg (ReqV.cells (y.getD k dReq))), (19, .agg (ReqV.cells (x.getD k dReq))), (0, .slice (some ⟨ab6, ao7, none⟩) x.length cx), (1, .slice (some ⟨ab8, ao9, none⟩) y.length cy), (12, .int .i64 (x.length : Nat)), (13, .int .i64 (k : Nat))] (by kernel_rfl) rfl (ak (okp (by omega) (okp (ptrAdd _ _ _) ok0)) (ak (okp (by kernel_rfl) (oka (RowsAt.all0 (hr1 _ (hs11.drop 0)) (by first | omega | (simp only [List.length_set]; omega) | (simp only [List.length_set, List.length_append, List.length_cons, List.length_nil]; omega)) (Nat.le_of_ble_eq_true (by kernel_rfl)) (by kernel_rfl)) ok0)) (ak (okp (by omega) (okp (ptrAdd _ _ _) ok0)) (ak (okp (by kernel_rfl) (oka (RowsAt.all0 (hr2 _ (hs11.drop 0)) (by first | omega | (simp only [List.length_set]; omega) | (simp only [List.length_set, List.length_append, List.length_cons, List.length_nil]; omega)) (Nat.le_of_ble_eq_true (by kernel_rfl)) (by kernel_rfl)) ok0)) ak0)))) ?_
      refine GoR.eqAgg rfl (by kernel_rfl) (b := false) (t := 46) (xs := ReqV.cells (x.getD k dReq)) (ys := ReqV.cells (y.getD k dReq)) (m := 3) (by kernel_rfl) (by kernel_rfl) (by decide) (by kernel_rfl) (r := !(decide ((x.getD k dReq) = (y.getD k dReq)))) (aggNe  (reqEq (x.getD k dReq) (y.getD k dReq))) ?_
      refine GoR.done (GoQ.thn ?_)
      refine GoC.cond (t := !(decide ((x.getD k dReq) = (y.getD k dReq)))) (by kernel_rfl) (fun h13 => ?_) (fun h13 => ?_)
      · have h13n : (decide ((x.getD k dReq) = (y.getD k dReq))) = false := notT h13
        have h13n' : ¬ ((x.getD k dReq) = (y.getD k dReq)) := of_decide_eq_false h13n
        have hne : ¬ x = y := fun e => by subst e; exact absurd h13 (by simp)
        refine GoC.seq ?_
        refine GoC.regT [1] (.rd 0 .done) (by kernel_rfl) (by kernel_rfl) ?_
        refine GoR.phaseK [(0, .gen [])] [4, 0, 1, 12, 13] [] [(4, .bool false), (0, .slice (some ⟨ab6, ao7, none⟩) x.length cx), (1, .slice (some ⟨ab8, ao9, none⟩) y.length cy), (12, .int .i64 (x.length : Nat)), (13, .int .i64 (k : Nat))] (by kernel_rfl) rfl ak0 ?_
        refine GoR.done (GoQ.thn (GoC.ret (GoQ.blkR (GoQ.skipCR (GoQ.skipLR (GoQ.blkR (GoQ.skipCR ?_)))))))
        refine GoQ.done (.inl rfl) (v := .bool false) (fun a hf => results1 rfl (by kernel_rfl) a hf) ?_
        exact ⟨(by rw [decide_eq_false hne]), hs11⟩
      · have h13n : (decide ((x.getD k dReq) = (y.getD k dReq))) = true := notF h13
        have h13n' : (x.getD k dReq) = (y.getD k dReq) := of_decide_eq_true h13n
        have heq : x.getD k dReq = y.getD k dReq := by simpa using h13
        refine GoC.skip (GoQ.blkN (GoQ.thn ?_))
        refine GoC.regT [3, 3] (.rd 0 (.rd 1 .done)) (by kernel_rfl) (by kernel_rfl) ?_
        refine GoR.phaseK [(0, .as_ (.int .i64 ((k : Nat) + 1)) (.gen [])), (1, .gen [])] [13, 0, 1, 12] [(0, [.prop (Value.int .i64 (IntKind.i64.wrap ((k : Nat) + 1)) = Value.int .i64 ((k : Nat) + 1))])] [(13, .int .i64 ((k : Nat) + 1)), (0, .slice (some ⟨ab6, ao7, none⟩) x.length cx), (1, .slice (some ⟨ab8, ao9, none⟩) y.length cy), (12, .int .i64 (x.length : Nat))] (by kernel_rfl) rfl (ak (okp (i64ok (by omega) (by omega)) ok0) ak0) ?_
        refine GoR.done ?_
        exact GoQ.back (k + 1) [0, 1, 12, 13] (by kernel_rfl) (by show x.length - (k + 1) < x.length - k; omega) ⟨⟨by omega, take_step hk hky hp.2 heq⟩, hs11⟩
    · have h5' : ¬ (((k : Nat) : Int) < (x.length : Nat)) := of_decide_eq_false h5
      have hxe : x = y := by have h9 := hp.2; rw [List.take_of_length_le (by omega), List.take_of_length_le (by omega)] at h9; exact h9
      refine GoC.exit (GoQ.skipC (GoQ.skipL (GoQ.hit (GoQ.thn (GoC.seq ?_)))))
      refine GoC.regT [1] (.rd 0 .done) (by kernel_rfl) (by kernel_rfl) ?_
      refine GoR.phaseK [(0, .gen [])] [4] [] [(4, .bool true)] (by kernel_rfl) rfl ak0 ?_
      refine GoR.done (GoQ.thn (GoC.ret ?_))
      refine GoQ.done (.inl rfl) (v := .bool true) (fun a hf => results1 rfl (by kernel_rfl) a hf) ?_
      exact ⟨(by rw [decide_eq_true hxe]), hs4⟩
end Go.Proofs.YtkiaagddmlddpaaGreatDoor
