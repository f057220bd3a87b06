/-
  A run's state is made again of its bytes. Conditions: requests in order.
-/
import Derived.Test.YtkiaagddmlddpaaGreatDoorStaO
import Derived.Test.YtkiaagddmlddpaaGreatDoorRunD
namespace Go.Proofs.YtkiaagddmlddpaaGreatDoor
open Go.RowKit Go.Sx
set_option linter.unusedVariables false
set_option linter.unusedSimpArgs false
set_option linter.unnecessarySimpa false
set_option maxRecDepth 100000
theorem tail_bound2 {cnt : Int} {tl : List LastV} {l : List ItemV} (hl : tl.length = 8) (hT : ∀ x ∈ tl, LastS x) (hln : l.length ≤ 64) (hit : ∀ x ∈ l, ItemS x) : (wd cnt ++ tailB tl l).length ≤ 800000 := by
  have h1 := flat_bound (F := lastB) (B := 200) (l := tl) fun x hx => by
    have := (hT x hx).2.2
    simp only [lastB, List.length_append, wd_length, txtB_length]; omega
  have h2 := flat_bound (F := itemB) (B := 300) (l := l) fun x hx => by
    have h3 := (hit x hx).1
    have h4 := (hit x hx).2
    simp only [itemB, List.length_append, txtB_length]; omega
  simp only [tailB, List.length_append, wd_length]
  omega
theorem again_inv {l : List ReqV} (hok : ∀ q ∈ l, ReqV.OK q) : TInv ((trun l).1, pairsOf (lst (trun l).2)) := ⟨(trun_inv hok).len, pairs_inv (trun_inv hok).inv, (trun_inv hok).all⟩
theorem set_ne {l : List ReqV} {k : Nat} {q : ReqV} (hk : k < l.length) (hq : q.time ≠ (l.getD k dReq).time) : ¬ l.set k q = l := by
  intro e
  have h := congrArg (fun z => z.getD k dReq) e
  simp only [List.getD_eq_getElem?_getD, List.getElem?_set_self hk, Option.getD_some] at h
  rw [List.getD_eq_getElem?_getD] at hq
  exact hq (by rw [← h])
theorem wrap_ne {t : Int} (h : 0 ≤ t ∧ t ≤ 18446744073709551615) : IntKind.u64.wrap (t + 1) ≠ t := by
  show (t + 1) % 18446744073709551616 ≠ t
  omega
theorem runState_spec {w0 w : World} {L : List Asn} {b : Nat} {ar : Option Addr} {cr : Nat} {s : Nat} {p : Nat} {q : Nat} {g : Nat} {ad : Option Addr} {cd : Nat} {mt : Nat} (y : List ReqV) (td : TDT) (hyo : ∀ z ∈ y, ReqV.OK z) (hyl : y.length ≤ 1000000) (hs : St w0 ((Cel b #[.slice ar y.length cr, .pointer (some ⟨s, 0, none⟩), .slice ad ((digsOf y).length) cd, .map (some mt)] 60) :: (Sl ar cr 46 40 ReqV.cells y) :: (Cel s #[.pointer (some ⟨q, 0, none⟩), .pointer (some ⟨p, 0, none⟩), .int .u64 (y.length : Nat)] 69) :: (Cel p (arrCells LastV.cells ((trun y).1)) 90) :: (Cel q #[.map (some g)] 87) :: (MapA Value.string Value.string g ((trun y).2)) :: (Sl ad cd 34 32 D32.cells (digsOf y)) :: (MapA ekN evTd mt td) :: L) w) : Calls Tryz.prog 14 #[.pointer (some ⟨b, 0, none⟩)] w (Ret fun rv w' => ∃ (s2 : Nat) (p2 : Nat) (q2 : Nat) (g2 : Nat), rv = .pointer (some ⟨s2, 0, none⟩) ∧ St w0 ((Cel s2 #[.pointer (some ⟨q2, 0, none⟩), .pointer (some ⟨p2, 0, none⟩), .int .u64 (y.length : Nat)] 69) :: (Cel p2 (arrCells LastV.cells ((trun y).1)) 90) :: (Cel q2 #[.map (some g2)] 87) :: (MapA Value.string Value.string g2 (pairsOf (lst (trun y).2))) :: (Cel b #[.slice ar y.length cr, .pointer (some ⟨s, 0, none⟩), .slice ad ((digsOf y).length) cd, .map (some mt)] 60) :: (Sl ar cr 46 40 ReqV.cells y) :: (Cel s #[.pointer (some ⟨q, 0, none⟩), .pointer (some ⟨p, 0, none⟩), .int .u64 (y.length : Nat)] 69) :: (Cel p (arrCells LastV.cells ((trun y).1)) 90) :: (Cel q #[.map (some g)] 87) :: (MapA Value.string Value.string g ((trun y).2)) :: (Sl ad cd 34 32 D32.cells (digsOf y)) :: (MapA ekN evTd mt td) :: L) w') := by
  refine enter (args := [.pointer (some ⟨b, 0, none⟩)]) Tryz.func14 rfl Tryz.ntmps14 (Nat.le_of_ble_eq_true (by kernel_rfl)) ?_
  refine GoC.slots (S' := [(0, .pointer (some ⟨b, 0, none⟩))]) rfl ?_
  refine GoC.seq ?_
  refine GoC.regT [1] (.rd 0 .done) (by kernel_rfl) (by kernel_rfl) ?_
  refine GoR.phaseK [(0, .gen [])] [2, 0] [] [(2, .pointer none), (0, .pointer (some ⟨b, 0, none⟩))] (by kernel_rfl) rfl ak0 ?_
  refine GoR.done (GoQ.thn (GoC.seq (GoC.seq ?_)))
  refine GoC.regT [3, 3] (.rd 0 (.rd 1 .done)) (by kernel_rfl) (by kernel_rfl) ?_
  refine GoR.phaseK [(0, .gen []), (1, .gen [])] [6, 2, 0] [] [(6, .bool false), (2, .pointer none), (0, .pointer (some ⟨b, 0, none⟩))] (by kernel_rfl) rfl ak0 ?_
  refine GoR.done (GoQ.thn (GoC.condF (by kernel_rfl) (GoC.skip (GoQ.thn (GoC.seq ?_)))))
  have hTY := trun_inv hyo
  refine GoC.regT [2047, 2047, 2047, 2047, 2047, 2047, 2047, 2047, 2047, 2047, 2047] (.rd 0 (.rd 1 (.rd 2 (.rd 3 (.ef 4 (.ef 5 (.rd 6 (.rd 7 (.rd 8 (.rd 9 (.rd 10 .done))))))))))) (by kernel_rfl) (by kernel_rfl) ?_
  refine GoR.phaseK [(0, .gen []), (1, .gen []), (2, .gen []), (3, .gen [.pointer (some ⟨s, 0, none⟩)])] [11, 2] [(3, [.cell ⟨b, 1, none⟩ (.pointer (some ⟨s, 0, none⟩))])] [(11, .pointer (some ⟨s, 0, none⟩)), (2, .pointer none)] (by kernel_rfl) rfl (ak (okc (hs.cell 0 rfl (by kernel_rfl)) ok0) ak0) ?_
  have hs1 : St w0 ((Cel s #[.pointer (some ⟨q, 0, none⟩), .pointer (some ⟨p, 0, none⟩), .int .u64 (y.length : Nat)] 69) :: (Cel p (arrCells LastV.cells ((trun y).1)) 90) :: (Cel q #[.map (some g)] 87) :: (MapA Value.string Value.string g ((trun y).2)) :: (Cel b #[.slice ar y.length cr, .pointer (some ⟨s, 0, none⟩), .slice ad ((digsOf y).length) cd, .map (some mt)] 60) :: (Sl ar cr 46 40 ReqV.cells y) :: (Sl ad cd 34 32 D32.cells (digsOf y)) :: (MapA ekN evTd mt td) :: L) w := ((((hs.pull 5 rfl).pull 5 rfl).pull 5 rfl).pull 5 rfl)
  refine GoR.call rfl rfl (by kernel_rfl) (f := 15) (args := #[.pointer (some ⟨s, 0, none⟩)]) (by kernel_rfl) Tryz.call15 (bytes_spec ((trun y).1) ((trun y).2) (y.length : Nat) hTY.len (Nat.le_trans hTY.inv.len (by decide)) hTY.lastS hTY.few hTY.itemS (by first | assumption | omega) hs1) ?_
  rintro v5 w6 ⟨ad2, c3, rfl, hs4⟩
  refine ⟨(opn (by kernel_rfl)), ?_⟩
  refine GoR.call rfl rfl (by kernel_rfl) (f := 23) (args := #[.slice ad2 ((wd (y.length : Nat) ++ tailB ((trun y).1) (lst ((trun y).2))).length) c3]) (by kernel_rfl) Tryz.call23 (stOf_spec (wd (y.length : Nat) ++ tailB ((trun y).1) (lst ((trun y).2))) ((trun y).1) ((trun y).2) (y.length : Nat) rfl (trun_inv hyo) (trun_ok hyo) (by first | assumption | omega) (tail_bound2 hTY.len hTY.lastS hTY.few hTY.itemS) (by obtain ⟨b, hb⟩ := Sl.isSome (hs4.at_ 0 rfl) (by simp only [List.length_append, wd_length]; omega); exact ⟨b, 0, hb⟩) (fun w h => h.rows 0 rfl (byteF).size _) hs4) ?_
  rintro v12 w13 ⟨s7, p8, q9, g10, rfl, hs11⟩
  refine ⟨(opn (by kernel_rfl)), ?_⟩
  refine GoR.phaseK [(6, .gen []), (7, .gen []), (8, .gen []), (9, .gen []), (10, .gen [])] [3, 2] [] [(3, .pointer (some ⟨s7, 0, none⟩)), (2, .pointer none)] (by kernel_rfl) rfl ak0 ?_
  refine GoR.done (GoQ.thn (GoC.seq ?_))
  refine GoC.regT [3, 3] (.rd 0 (.rd 1 .done)) (by kernel_rfl) (by kernel_rfl) ?_
  refine GoR.phaseK [(0, .gen []), (1, .gen [])] [2] [] [(2, .pointer (some ⟨s7, 0, none⟩))] (by kernel_rfl) rfl ak0 ?_
  refine GoR.done (GoQ.thn (GoC.ret ?_))
  refine GoQ.done (.inl rfl) (v := .pointer (some ⟨s7, 0, none⟩)) (fun a hf => results1 rfl (by kernel_rfl) a hf) ?_
  have hs14 : St w0 ((Sl ad2 c3 5 1 byteC (wd (y.length : Nat) ++ tailB ((trun y).1) (lst ((trun y).2)))) :: (Cel s7 #[.pointer (some ⟨q9, 0, none⟩), .pointer (some ⟨p8, 0, none⟩), .int .u64 (y.length : Nat)] 69) :: (Cel p8 (arrCells LastV.cells ((trun y).1)) 90) :: (Cel q9 #[.map (some g10)] 87) :: (MapA Value.string Value.string g10 (pairsOf (lst ((trun y).2)))) :: (Cel b #[.slice ar y.length cr, .pointer (some ⟨s, 0, none⟩), .slice ad ((digsOf y).length) cd, .map (some mt)] 60) :: (Sl ar cr 46 40 ReqV.cells y) :: (Cel s #[.pointer (some ⟨q, 0, none⟩), .pointer (some ⟨p, 0, none⟩), .int .u64 (y.length : Nat)] 69) :: (Cel p (arrCells LastV.cells ((trun y).1)) 90) :: (Cel q #[.map (some g)] 87) :: (MapA Value.string Value.string g ((trun y).2)) :: (Sl ad cd 34 32 D32.cells (digsOf y)) :: (MapA ekN evTd mt td) :: L) w13 := (((((((((((((hs11.pull 12 rfl).pull 12 rfl).pull 10 rfl).pull 10 rfl).pull 10 rfl).pull 10 rfl).pull 12 rfl).pull 12 rfl).pull 11 rfl).pull 11 rfl).pull 11 rfl).pull 11 rfl).pull 12 rfl)
  have hs15 : St w0 ((Cel s7 #[.pointer (some ⟨q9, 0, none⟩), .pointer (some ⟨p8, 0, none⟩), .int .u64 (y.length : Nat)] 69) :: (Cel p8 (arrCells LastV.cells ((trun y).1)) 90) :: (Cel q9 #[.map (some g10)] 87) :: (MapA Value.string Value.string g10 (pairsOf (lst ((trun y).2)))) :: (Cel b #[.slice ar y.length cr, .pointer (some ⟨s, 0, none⟩), .slice ad ((digsOf y).length) cd, .map (some mt)] 60) :: (Sl ar cr 46 40 ReqV.cells y) :: (Cel s #[.pointer (some ⟨q, 0, none⟩), .pointer (some ⟨p, 0, none⟩), .int .u64 (y.length : Nat)] 69) :: (Cel p (arrCells LastV.cells ((trun y).1)) 90) :: (Cel q #[.map (some g)] 87) :: (MapA Value.string Value.string g ((trun y).2)) :: (Sl ad cd 34 32 D32.cells (digsOf y)) :: (MapA ekN evTd mt td) :: L) w13 := hs14.drop 1
  exact ⟨s7, p8, q9, g10, rfl, hs15⟩
end Go.Proofs.YtkiaagddmlddpaaGreatDoor
