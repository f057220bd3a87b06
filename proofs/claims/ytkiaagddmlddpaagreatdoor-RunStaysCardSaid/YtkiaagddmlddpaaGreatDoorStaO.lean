/-
  state.Of, of the bytes that a state gave. Conditions: the state is in order.
-/
import Derived.Test.YtkiaagddmlddpaaGreatDoorOctT
import Derived.Test.YtkiaagddmlddpaaGreatDoorRunQ
namespace Go.Proofs.YtkiaagddmlddpaaGreatDoor
open Go.RowKit Go.Sx
set_option linter.unusedVariables false
set_option linter.unusedSimpArgs false
set_option linter.unnecessarySimpa false
set_option maxRecDepth 100000
set_option maxHeartbeats 8000000 in
theorem stOf_spec {w0 w : World} {L : List Asn} {ad : Option Addr} {ca : Nat} (F : List Int) (tl : List LastV) (m : List (ByteArray × ByteArray)) (cnt : Int) (hF : F = wd cnt ++ tailB tl (lst m)) (hT : TInv (tl, m)) (htok : tofOK tl = true) (hc : 0 ≤ cnt ∧ cnt ≤ 1000000) (hFl : F.length ≤ 800000) (hsm : ∃ b off, ad = some ⟨b, off, none⟩) (hr : ∀ w, St w0 L w → RowsAt w ad F.length 1 (fun k => byteC (F.getD k (0 : Int)))) (hs : St w0 (L) w) : Calls Tryz.prog 23 #[.slice ad F.length ca] w (Ret fun rv w' => ∃ (s : Nat) (p : Nat) (q : Nat) (g : Nat), rv = .tuple #[.pointer (some ⟨s, 0, none⟩), .int .i64 0] ∧ St w0 ((Cel s #[.pointer (some ⟨q, 0, none⟩), .pointer (some ⟨p, 0, none⟩), .int .u64 cnt] 69) :: (Cel p (arrCells LastV.cells tl) 90) :: (Cel q #[.map (some g)] 87) :: (MapA Value.string Value.string g (pairsOf (lst m))) :: L) w') := by
  refine enter (args := [.slice ad F.length ca]) Tryz.func23 rfl Tryz.ntmps23 (Nat.le_of_ble_eq_true (by kernel_rfl)) ?_
  refine GoC.slots (S' := [(0, .slice ad F.length ca)]) rfl ?_
  refine GoC.seq ?_
  refine GoC.regT [3, 3] (.rd 0 (.rd 1 .done)) (by kernel_rfl) (by kernel_rfl) ?_
  refine GoR.phaseK [(0, .gen []), (1, .gen [])] [3, 2, 0] [] [(3, .int .i64 0), (2, .pointer none), (0, .slice ad F.length ca)] (by kernel_rfl) rfl ak0 ?_
  refine GoR.done (GoQ.thn (GoC.seq ?_))
  refine GoC.regT [7, 7, 7] (.rd 0 (.ef 1 (.rd 2 .done))) (by kernel_rfl) (by kernel_rfl) ?_
  refine GoR.phaseK [(0, .gen [])] [17, 3, 2, 0] [] [(17, .slice ad F.length ca), (3, .int .i64 0), (2, .pointer none), (0, .slice ad F.length ca)] (by kernel_rfl) rfl ak0 ?_
  refine GoR.call rfl rfl (by kernel_rfl) (f := 34) (args := #[.slice ad F.length ca]) (by kernel_rfl) Tryz.call34 (cutNew_spec F (by omega) (by first | assumption | omega) (fun w h => hr _ (h.drop 0)) hs) ?_
  rintro v5 w6 ⟨c1, ao2, co3, rfl, hs4⟩
  refine ⟨(opn (by kernel_rfl)), ?_⟩
  refine GoR.phaseK [(2, .gen [])] [4, 3, 2, 0] [] [(4, .pointer (some ⟨c1, 0, none⟩)), (3, .int .i64 0), (2, .pointer none), (0, .slice ad F.length ca)] (by kernel_rfl) rfl ak0 ?_
  refine GoR.done (GoQ.thn (GoC.seq ?_))
  have hcz0 : F.length ≤ co3 := Sl.cap (hs4.at_ 1 rfl)
  have hsm0 : ∃ b off, ao2 = some ⟨b, off, none⟩ := by obtain ⟨b, hb⟩ := Sl.isSome (hs4.at_ 1 rfl) (by rw [hF, List.length_append, wd_length]; omega); exact ⟨b, 0, hb⟩
  have hz0 : ∀ w, (Sl ao2 co3 5 1 byteC F).holds w → RowsAt w ao2 F.length 1 (fun k => byteC (F.getD k (0 : Int))) := fun w h => Sl.rows byteF.size h (0 : Int)
  have hfw : (lst m).length ≤ 64 := hT.few
  have htl : tl.length = 8 := hT.len
  have e0 : F = _ := hF.trans (tail_parts cnt tl (lst m))
  refine GoC.regT [31, 31, 31, 31, 31] (.rd 0 (.ef 1 (.rd 2 (.ef 3 (.rd 4 .done))))) (by kernel_rfl) (by kernel_rfl) ?_
  refine GoR.phaseK [(0, .gen [])] [19, 4, 3, 2, 0] [] [(19, .pointer (some ⟨c1, 0, none⟩)), (4, .pointer (some ⟨c1, 0, none⟩)), (3, .int .i64 0), (2, .pointer none), (0, .slice ad F.length ca)] (by kernel_rfl) rfl ak0 ?_
  refine GoR.call rfl rfl (by kernel_rfl) (f := 35) (args := #[.pointer (some ⟨c1, 0, none⟩)]) (by kernel_rfl) Tryz.call35 (cutWord_spec (Sl ao2 co3 5 1 byteC F) F cnt (fun w h => h.at_ 0 rfl) hcz0 hsm0 hz0 (tk_wd e0) (by omega) (by first | omega | (simp only [List.length_drop]; omega)) hs4) ?_
  rintro v13 w14 ⟨az7, cz8, rfl, hcz29, hsm210, hz211, hs12⟩
  have e15 := dr_wd e0
  refine ⟨(opn (by kernel_rfl)), ?_⟩
  refine GoR.phaseK [(2, .gen [])] [21, 4, 3, 2, 0] [] [(21, .agg #[.pointer none, .pointer none, .int .u64 cnt]), (4, .pointer (some ⟨c1, 0, none⟩)), (3, .int .i64 0), (2, .pointer none), (0, .slice ad F.length ca)] (by kernel_rfl) rfl ak0 ?_
  refine GoR.box rfl rfl (by kernel_rfl) (v := .agg #[.pointer none, .pointer none, .int .u64 cnt]) (by kernel_rfl) hs12 (cs := #[.pointer none, .pointer none, .int .u64 cnt]) (by kernel_rfl) ?_
  intro b16 w17 hs18
  refine ⟨(opn (by kernel_rfl)), ?_⟩
  refine GoR.phaseK [(4, .gen [])] [5, 4, 3, 2, 0] [] [(5, .pointer (some ⟨b16, 0, none⟩)), (4, .pointer (some ⟨c1, 0, none⟩)), (3, .int .i64 0), (2, .pointer none), (0, .slice ad F.length ca)] (by kernel_rfl) rfl ak0 ?_
  refine GoR.done (GoQ.thn (GoC.seq ?_))
  refine GoC.regT [1] (.rd 0 .done) (by kernel_rfl) (by kernel_rfl) ?_
  refine GoR.phaseK [(0, .gen [])] [6, 5, 4, 3, 2, 0] [] [(6, .slice none 0 0), (5, .pointer (some ⟨b16, 0, none⟩)), (4, .pointer (some ⟨c1, 0, none⟩)), (3, .int .i64 0), (2, .pointer none), (0, .slice ad F.length ca)] (by kernel_rfl) rfl ak0 ?_
  refine GoR.done (GoQ.thn (GoC.seq ?_))
  refine GoC.regT [1] (.rd 0 .done) (by kernel_rfl) (by kernel_rfl) ?_
  refine GoR.phaseK [(0, .gen [])] [7, 6, 5, 4, 3, 2, 0] [] [(7, .bool false), (6, .slice none 0 0), (5, .pointer (some ⟨b16, 0, none⟩)), (4, .pointer (some ⟨c1, 0, none⟩)), (3, .int .i64 0), (2, .pointer none), (0, .slice ad F.length ca)] (by kernel_rfl) rfl ak0 ?_
  refine GoR.done (GoQ.thn (GoC.seq (GoC.seq ?_)))
  refine GoC.regT [1] (.rd 0 .done) (by kernel_rfl) (by kernel_rfl) ?_
  refine GoR.phaseK [(0, .gen [])] [23, 7, 6, 5, 4, 3, 2, 0] [] [(23, .int .i64 0), (7, .bool false), (6, .slice none 0 0), (5, .pointer (some ⟨b16, 0, none⟩)), (4, .pointer (some ⟨c1, 0, none⟩)), (3, .int .i64 0), (2, .pointer none), (0, .slice ad F.length ca)] (by kernel_rfl) rfl ak0 ?_
  refine GoR.done (GoQ.thn (GoC.block ?_))
  have hs19 : St w0 ((Sl none 0 80 3 LastV.cells ([] : List LastV)) :: (Cel b16 #[.pointer none, .pointer none, .int .u64 cnt] 69) :: (Cel c1 #[.slice az7 ((F.drop 8).length) cz8, .bool false] 126) :: (Sl ao2 co3 5 1 byteC F) :: L) w17 := St.slNil hs18 80 3 LastV.cells
  have hs20 : St w0 ((Sl none 0 80 3 LastV.cells ([] : List LastV)) :: (Cel c1 #[.slice az7 ((F.drop 8).length) cz8, .bool false] 126) :: (Sl ao2 co3 5 1 byteC F) :: (Cel b16 #[.pointer none, .pointer none, .int .u64 cnt] 69) :: L) w17 := ((((hs19.pull 1 rfl).pull 3 rfl).pull 3 rfl).pull 3 rfl)
  refine GoC.loop (T := Nat × (List LastV) × (Option Addr) × Nat × (List Int) × (Option Addr) × Nat) (fun gg => [(0, .slice ad F.length ca), (2, .pointer none), (3, .int .i64 0), (4, .pointer (some ⟨c1, 0, none⟩)), (5, .pointer (some ⟨b16, 0, none⟩)), (6, .slice gg.2.2.1 gg.2.1.length gg.2.2.2.1), (7, .bool false), (23, .int .i64 (gg.1 : Nat))]) (fun gg w => (gg.1 ≤ 8 ∧ gg.2.1 = tl.take gg.1 ∧ gg.2.2.2.2.1 = tabR tl gg.1 (wd ((lst m).length : Nat) ++ itmR (lst m) 0) ∧ gg.2.2.2.2.1.length ≤ 800000 ∧ gg.2.2.2.2.1.length ≤ gg.2.2.2.2.2.2 ∧ (∃ b off, gg.2.2.2.2.2.1 = some ⟨b, off, none⟩) ∧ (∀ w, (Sl ao2 co3 5 1 byteC F).holds w → RowsAt w gg.2.2.2.2.2.1 gg.2.2.2.2.1.length 1 (fun k => byteC (gg.2.2.2.2.1.getD k (0 : Int))))) ∧ St w0 ((Sl gg.2.2.1 gg.2.2.2.1 80 3 LastV.cells gg.2.1) :: (Cel c1 #[.slice gg.2.2.2.2.2.1 gg.2.2.2.2.1.length gg.2.2.2.2.2.2, .bool false] 126) :: (Sl ao2 co3 5 1 byteC F) :: (Cel b16 #[.pointer none, .pointer none, .int .u64 cnt] 69) :: L) w) (fun gg => 8 - gg.1) (0, [], none, 0, (F.drop 8), az7, cz8) [0, 2, 3, 4, 5, 6, 7, 23] (by kernel_rfl) ⟨⟨Nat.zero_le _, rfl, e15, (by first | omega | (simp only [List.length_drop]; omega)), hcz29, hsm210, hz211⟩, hs20⟩ ?_
  rintro ⟨kk, ql, la, lc, rr, az, cz⟩ w21 ⟨hp0, hs22⟩
  have hp : kk ≤ 8 ∧ ql = tl.take kk ∧ rr = tabR tl kk (wd ((lst m).length : Nat) ++ itmR (lst m) 0) ∧ rr.length ≤ 800000 ∧ rr.length ≤ cz ∧ (∃ b off, az = some ⟨b, off, none⟩) ∧ (∀ w, (Sl ao2 co3 5 1 byteC F).holds w → RowsAt w az rr.length 1 (fun k => byteC (rr.getD k (0 : Int)))) := hp0
  have hs23 : St w0 ((Sl la lc 80 3 LastV.cells ql) :: (Cel c1 #[.slice az rr.length cz, .bool false] 126) :: (Sl ao2 co3 5 1 byteC F) :: (Cel b16 #[.pointer none, .pointer none, .int .u64 cnt] 69) :: L) w21 := hs22
  refine GoC.slots (S' := [(0, .slice ad F.length ca), (2, .pointer none), (3, .int .i64 0), (4, .pointer (some ⟨c1, 0, none⟩)), (5, .pointer (some ⟨b16, 0, none⟩)), (6, .slice la ql.length lc), (7, .bool false), (23, .int .i64 (kk : Nat))]) rfl ?_
  obtain ⟨hk8, hql, hrr, hrl, hczL, hsmL, hzL⟩ := hp
  refine GoC.seq ?_
  refine GoC.regT [1] (.rd 0 .done) (by kernel_rfl) (by kernel_rfl) ?_
  refine GoR.phaseK [(0, .gen [])] [24, 0, 2, 3, 4, 5, 6, 7, 23] [] [(24, .bool (decide (((kk : Nat) : Int) < 8))), (0, .slice ad F.length ca), (2, .pointer none), (3, .int .i64 0), (4, .pointer (some ⟨c1, 0, none⟩)), (5, .pointer (some ⟨b16, 0, none⟩)), (6, .slice la ql.length lc), (7, .bool false), (23, .int .i64 (kk : Nat))] (by kernel_rfl) rfl ak0 ?_
  refine GoR.done (GoQ.thn (GoC.seq ?_))
  refine GoC.cond (t := decide (((kk : Nat) : Int) < 8)) (by kernel_rfl) (fun h24 => ?_) (fun h24 => ?_)
  · have h24' : ((kk : Nat) : Int) < 8 := of_decide_eq_true h24
    have hkx : kk < tl.length := by rw [hT.len]; omega
    have hx := hT.lastS (tl.getD kk dLast) (getD_mem (d := dLast) hkx)
    have hx1 := hx.1
    have hx2 := hx.2.1
    have hx3 := hx.2.2
    have hqn : ql.length ≤ 8 := by rw [hql, List.length_take]; omega
    have ea := hrr.trans (tabR_succ _ hkx)
    refine GoC.skip (GoQ.thn (GoC.seq (GoC.block (GoC.seq ?_))))
    refine GoC.regT [31, 31, 31, 31, 31] (.rd 0 (.ef 1 (.rd 2 (.ef 3 (.ef 4 .done))))) (by kernel_rfl) (by kernel_rfl) ?_
    refine GoR.phaseK [(0, .gen [])] [25, 0, 2, 3, 4, 5, 6, 7, 23] [] [(25, .pointer (some ⟨c1, 0, none⟩)), (0, .slice ad F.length ca), (2, .pointer none), (3, .int .i64 0), (4, .pointer (some ⟨c1, 0, none⟩)), (5, .pointer (some ⟨b16, 0, none⟩)), (6, .slice la ql.length lc), (7, .bool false), (23, .int .i64 (kk : Nat))] (by kernel_rfl) rfl ak0 ?_
    have hs25 : St w0 ((Cel c1 #[.slice az rr.length cz, .bool false] 126) :: (Sl la lc 80 3 LastV.cells ql) :: (Sl ao2 co3 5 1 byteC F) :: (Cel b16 #[.pointer none, .pointer none, .int .u64 cnt] 69) :: L) w21 := (hs23.pull 1 rfl)
    refine GoR.call rfl rfl (by kernel_rfl) (f := 35) (args := #[.pointer (some ⟨c1, 0, none⟩)]) (by kernel_rfl) Tryz.call35 (cutWord_spec (Sl ao2 co3 5 1 byteC F) rr ((tl.getD kk dLast).time) (fun w h => h.at_ 1 rfl) hczL hsmL hzL (tk_wd ea) (by omega) (by first | omega | (simp only [List.length_drop]; omega)) hs25) ?_
    rintro v32 w33 ⟨az26, cz27, rfl, hcz228, hsm229, hz230, hs31⟩
    have e34 := dr_wd ea
    refine ⟨(opn (by kernel_rfl)), ?_⟩
    refine GoR.phaseK [(2, .gen [])] [27, 0, 2, 3, 4, 5, 6, 7, 23] [] [(27, .agg #[.int .u64 ((tl.getD kk dLast).time), .int .i64 0, .string (⟨#[]⟩ : ByteArray)]), (0, .slice ad F.length ca), (2, .pointer none), (3, .int .i64 0), (4, .pointer (some ⟨c1, 0, none⟩)), (5, .pointer (some ⟨b16, 0, none⟩)), (6, .slice la ql.length lc), (7, .bool false), (23, .int .i64 (kk : Nat))] (by kernel_rfl) rfl ak0 ?_
    refine GoR.alloc rfl rfl (by kernel_rfl) (z := .agg #[.int .u64 0, .int .i64 0, .string (⟨#[]⟩ : ByteArray)]) (by kernel_rfl) hs31 (cs := #[.int .u64 0, .int .i64 0, .string (⟨#[]⟩ : ByteArray)]) (by kernel_rfl) ?_
    intro b35 w36 hs37
    refine ⟨(opn (by kernel_rfl)), ?_⟩
    refine GoR.store rfl rfl (by kernel_rfl) (b := b35) (off := 0) (v := .agg #[.int .u64 ((tl.getD kk dLast).time), .int .i64 0, .string (⟨#[]⟩ : ByteArray)]) (by kernel_rfl) (by kernel_rfl) (ti := Tryz.t80) (by kernel_rfl) hs37 0 rfl (by kernel_rfl) (by kernel_rfl) (Nat.le_of_ble_eq_true (by kernel_rfl)) (cs' := #[.int .u64 ((tl.getD kk dLast).time), .int .i64 0, .string (⟨#[]⟩ : ByteArray)]) (L' := (Cel b35 #[.int .u64 ((tl.getD kk dLast).time), .int .i64 0, .string (⟨#[]⟩ : ByteArray)] 80) :: (Cel c1 #[.slice az26 ((rr.drop 8).length) cz27, .bool false] 126) :: (Sl la lc 80 3 LastV.cells ql) :: (Sl ao2 co3 5 1 byteC F) :: (Cel b16 #[.pointer none, .pointer none, .int .u64 cnt] 69) :: L) (by kernel_rfl) rfl ?_
    intro w38 hs39
    refine ⟨(opn (by kernel_rfl)), ?_⟩
    refine GoR.done (GoQ.thn (GoC.seq ?_))
    refine GoC.regT [7, 7, 7] (.rd 0 (.ef 1 (.rd 2 .done))) (by kernel_rfl) (by kernel_rfl) ?_
    refine GoR.phaseK [(0, .gen [])] [28, 8, 0, 2, 3, 4, 5, 6, 7, 23] [] [(28, .pointer (some ⟨c1, 0, none⟩)), (8, .pointer (some ⟨b35, 0, none⟩)), (0, .slice ad F.length ca), (2, .pointer none), (3, .int .i64 0), (4, .pointer (some ⟨c1, 0, none⟩)), (5, .pointer (some ⟨b16, 0, none⟩)), (6, .slice la ql.length lc), (7, .bool false), (23, .int .i64 (kk : Nat))] (by kernel_rfl) rfl ak0 ?_
    have hs40 : St w0 ((Cel c1 #[.slice az26 ((rr.drop 8).length) cz27, .bool false] 126) :: (Cel b35 #[.int .u64 ((tl.getD kk dLast).time), .int .i64 0, .string (⟨#[]⟩ : ByteArray)] 80) :: (Sl la lc 80 3 LastV.cells ql) :: (Sl ao2 co3 5 1 byteC F) :: (Cel b16 #[.pointer none, .pointer none, .int .u64 cnt] 69) :: L) w38 := (hs39.pull 1 rfl)
    refine GoR.call rfl rfl (by kernel_rfl) (f := 35) (args := #[.pointer (some ⟨c1, 0, none⟩)]) (by kernel_rfl) Tryz.call35 (cutWord_spec (Sl ao2 co3 5 1 byteC F) (rr.drop 8) ((tl.getD kk dLast).reply.err) (fun w h => h.at_ 2 rfl) hcz228 hsm229 hz230 (tk_wd e34) (by omega) (by first | omega | (simp only [List.length_drop]; omega)) hs40) ?_
    rintro v47 w48 ⟨az41, cz42, rfl, hcz243, hsm244, hz245, hs46⟩
    have e49 := dr_wd e34
    refine ⟨(opn (by kernel_rfl)), ?_⟩
    refine GoR.phaseK [(2, .gen [])] [9, 8, 0, 2, 3, 4, 5, 6, 7, 23] [] [(9, .int .u64 ((tl.getD kk dLast).reply.err)), (8, .pointer (some ⟨b35, 0, none⟩)), (0, .slice ad F.length ca), (2, .pointer none), (3, .int .i64 0), (4, .pointer (some ⟨c1, 0, none⟩)), (5, .pointer (some ⟨b16, 0, none⟩)), (6, .slice la ql.length lc), (7, .bool false), (23, .int .i64 (kk : Nat))] (by kernel_rfl) rfl ak0 ?_
    refine GoR.done (GoQ.thn (GoC.seq ?_))
    refine GoC.regT [63, 63, 63, 63, 63, 63] (.rd 0 (.rd 1 (.rd 2 (.rd 3 (.rd 4 (.rd 5 .done)))))) (by kernel_rfl) (by kernel_rfl) ?_
    refine GoR.phaseK [(0, .gen []), (1, .gen []), (2, .gen []), (3, .gen []), (4, .gen []), (5, .gen [])] [7, 9, 8, 0, 2, 3, 4, 5, 6, 23] [] [(7, .bool (decide ((((tl.getD kk dLast).reply.err) : Int) ≥ 2147483648))), (9, .int .u64 ((tl.getD kk dLast).reply.err)), (8, .pointer (some ⟨b35, 0, none⟩)), (0, .slice ad F.length ca), (2, .pointer none), (3, .int .i64 0), (4, .pointer (some ⟨c1, 0, none⟩)), (5, .pointer (some ⟨b16, 0, none⟩)), (6, .slice la ql.length lc), (23, .int .i64 (kk : Nat))] (by kernel_rfl) rfl ak0 ?_
    refine GoR.done (GoQ.thn (GoC.seq ?_))
    have hw50 : (decide ((((tl.getD kk dLast).reply.err) : Int) ≥ 2147483648)) = false := decide_eq_false (by omega)
    rw [hw50]
    refine GoC.regT [127, 127, 127, 127, 127, 127, 127] (.rd 0 (.rd 1 (.rd 2 (.ef 3 (.rd 4 (.rd 5 (.ef 6 .done))))))) (by kernel_rfl) (by kernel_rfl) ?_
    refine GoR.phaseK [(0, .gen []), (1, .as_ (.int .i64 ((tl.getD kk dLast).reply.err)) (.gen [])), (2, .gen [])] [37, 36, 7, 8, 0, 2, 3, 4, 5, 6, 23] [(1, [.prop (Value.int .i64 (IntKind.i64.wrap ((tl.getD kk dLast).reply.err)) = Value.int .i64 ((tl.getD kk dLast).reply.err))])] [(37, .pointer (some ⟨c1, 0, none⟩)), (36, .int .i64 ((tl.getD kk dLast).reply.err)), (7, .bool false), (8, .pointer (some ⟨b35, 0, none⟩)), (0, .slice ad F.length ca), (2, .pointer none), (3, .int .i64 0), (4, .pointer (some ⟨c1, 0, none⟩)), (5, .pointer (some ⟨b16, 0, none⟩)), (6, .slice la ql.length lc), (23, .int .i64 (kk : Nat))] (by kernel_rfl) rfl (ak (okp (i64ok (by omega) (by omega)) ok0) ak0) ?_
    refine GoR.call rfl rfl (by kernel_rfl) (f := 36) (args := #[.pointer (some ⟨c1, 0, none⟩)]) (by kernel_rfl) Tryz.call36 (text_spec (Sl ao2 co3 5 1 byteC F) ((rr.drop 8).drop 8) ((tl.getD kk dLast).reply.value) (fun w h => h.at_ 2 rfl) hcz243 hsm244 hz245 (tk_txt e49) (by omega) (by first | omega | (simp only [List.length_drop]; omega)) hs46) ?_
    rintro v57 w58 ⟨az51, cz52, rfl, hcz253, hsm254, hz255, hs56⟩
    have e59 := dr_txt e49
    refine ⟨(opn (by kernel_rfl)), ?_⟩
    refine GoR.phaseK [(4, .gen []), (5, .gen [])] [40, 39, 7, 8, 0, 2, 3, 4, 5, 6, 23] [] [(40, .pointer (some ⟨b35, 1, none⟩)), (39, .agg #[.int .i64 ((tl.getD kk dLast).reply.err), .string ((tl.getD kk dLast).reply.value)]), (7, .bool false), (8, .pointer (some ⟨b35, 0, none⟩)), (0, .slice ad F.length ca), (2, .pointer none), (3, .int .i64 0), (4, .pointer (some ⟨c1, 0, none⟩)), (5, .pointer (some ⟨b16, 0, none⟩)), (6, .slice la ql.length lc), (23, .int .i64 (kk : Nat))] (by kernel_rfl) rfl ak0 ?_
    refine GoR.store rfl rfl (by kernel_rfl) (b := b35) (off := 1) (v := .agg #[.int .i64 ((tl.getD kk dLast).reply.err), .string ((tl.getD kk dLast).reply.value)]) (by kernel_rfl) (by kernel_rfl) (ti := Tryz.t40) (by kernel_rfl) hs56 1 rfl (by kernel_rfl) (by kernel_rfl) (Nat.le_of_ble_eq_true (by kernel_rfl)) (cs' := #[.int .u64 ((tl.getD kk dLast).time), .int .i64 ((tl.getD kk dLast).reply.err), .string ((tl.getD kk dLast).reply.value)]) (L' := (Cel c1 #[.slice az51 ((((rr.drop 8).drop 8).drop (8 + ((tl.getD kk dLast).reply.value).size)).length) cz52, .bool false] 126) :: (Cel b35 #[.int .u64 ((tl.getD kk dLast).time), .int .i64 ((tl.getD kk dLast).reply.err), .string ((tl.getD kk dLast).reply.value)] 80) :: (Sl la lc 80 3 LastV.cells ql) :: (Sl ao2 co3 5 1 byteC F) :: (Cel b16 #[.pointer none, .pointer none, .int .u64 cnt] 69) :: L) (by kernel_rfl) rfl ?_
    intro w60 hs61
    refine ⟨(opn (by kernel_rfl)), ?_⟩
    refine GoR.done (GoQ.thn ?_)
    refine GoC.regT [31, 31, 31, 31, 31] (.rd 0 (.rd 1 (.ef 2 (.ef 3 (.rd 4 .done))))) (by kernel_rfl) (by kernel_rfl) ?_
    refine GoR.phaseK [(0, .gen []), (1, .agg #[.int .u64 ((tl.getD kk dLast).time), .int .i64 ((tl.getD kk dLast).reply.err), .string ((tl.getD kk dLast).reply.value)])] [42, 41, 7, 0, 2, 3, 4, 5, 6, 23] [(1, [.prop (Array.size (#[.int .u64 ((tl.getD kk dLast).time), .int .i64 ((tl.getD kk dLast).reply.err), .string ((tl.getD kk dLast).reply.value)] : Array Value) = 3), .cells ⟨b35, 0, none⟩ #[.int .u64 ((tl.getD kk dLast).time), .int .i64 ((tl.getD kk dLast).reply.err), .string ((tl.getD kk dLast).reply.value)]])] [(42, .agg #[.int .u64 ((tl.getD kk dLast).time), .int .i64 ((tl.getD kk dLast).reply.err), .string ((tl.getD kk dLast).reply.value)]), (41, .slice la ql.length lc), (7, .bool false), (0, .slice ad F.length ca), (2, .pointer none), (3, .int .i64 0), (4, .pointer (some ⟨c1, 0, none⟩)), (5, .pointer (some ⟨b16, 0, none⟩)), (6, .slice la ql.length lc), (23, .int .i64 (kk : Nat))] (by kernel_rfl) rfl (ak (okp (by kernel_rfl) (oka (hs61.cells 1 0 rfl (by kernel_rfl)) ok0)) ak0) ?_
    refine GoR.sliceLit rfl (by kernel_rfl) (t := 77) (e := 80) (n := 1) (ps := [(0, .agg #[.int .u64 ((tl.getD kk dLast).time), .int .i64 ((tl.getD kk dLast).reply.err), .string ((tl.getD kk dLast).reply.value)])]) (by kernel_rfl) (by kernel_rfl) (ti := Tryz.t80) (z := .agg #[.int .u64 0, .int .i64 0, .string (⟨#[]⟩ : ByteArray)]) (by kernel_rfl) (by kernel_rfl) (by decide) (by decide) (cs := #[.int .u64 ((tl.getD kk dLast).time), .int .i64 ((tl.getD kk dLast).reply.err), .string ((tl.getD kk dLast).reply.value)]) (by kernel_rfl) hs61 ?_
    intro b62 w63 hs64 hz65
    have hs66 : St w0 ((Sl (some ⟨b62, 0, none⟩) 1 80 3 LastV.cells ([(⟨((tl.getD kk dLast).time), ⟨((tl.getD kk dLast).reply.err), ((tl.getD kk dLast).reply.value)⟩⟩ : LastV)])) :: (Cel c1 #[.slice az51 ((((rr.drop 8).drop 8).drop (8 + ((tl.getD kk dLast).reply.value).size)).length) cz52, .bool false] 126) :: (Cel b35 #[.int .u64 ((tl.getD kk dLast).time), .int .i64 ((tl.getD kk dLast).reply.err), .string ((tl.getD kk dLast).reply.value)] 80) :: (Sl la lc 80 3 LastV.cells ql) :: (Sl ao2 co3 5 1 byteC F) :: (Cel b16 #[.pointer none, .pointer none, .int .u64 cnt] 69) :: L) w63 := St.slOf (l := [(⟨((tl.getD kk dLast).time), ⟨((tl.getD kk dLast).reply.err), ((tl.getD kk dLast).reply.value)⟩⟩ : LastV)]) (f := LastV.cells) hs64 hz65 (lastF).size (by simp only [List.length_cons, List.length_nil, maxLen]; omega) (by kernel_rfl)
    refine ⟨(opn (by kernel_rfl)), ?_⟩
    have hs69 : St w0 ((Sl la lc 80 3 LastV.cells ql) :: (Sl (some ⟨b62, 0, none⟩) 1 80 3 LastV.cells ([(⟨((tl.getD kk dLast).time), ⟨((tl.getD kk dLast).reply.err), ((tl.getD kk dLast).reply.value)⟩⟩ : LastV)])) :: (Cel c1 #[.slice az51 ((((rr.drop 8).drop 8).drop (8 + ((tl.getD kk dLast).reply.value).size)).length) cz52, .bool false] 126) :: (Cel b35 #[.int .u64 ((tl.getD kk dLast).time), .int .i64 ((tl.getD kk dLast).reply.err), .string ((tl.getD kk dLast).reply.value)] 80) :: (Sl ao2 co3 5 1 byteC F) :: (Cel b16 #[.pointer none, .pointer none, .int .u64 cnt] 69) :: L) w63 := (hs66.pull 3 rfl)
    refine GoR.append rfl (by kernel_rfl) lastsOK lastF (ad := la) (c := lc) (xs := ql) (ys := [(⟨((tl.getD kk dLast).time), ⟨((tl.getD kk dLast).reply.err), ((tl.getD kk dLast).reply.value)⟩⟩ : LastV)]) (adx := some ⟨b62, 0, none⟩) (cx := 1) dLast (by kernel_rfl) hs69 (hs69.rows 1 rfl (lastF).size dLast) (fun h => nomatch h) (by simp only [List.length_append, List.length_cons, List.length_nil, List.length_map] at *; omega) (by simp only [List.length_append, List.length_cons, List.length_nil, List.length_map] at *; omega) ?_
    intro ad70 c71 w67 hs68
    refine ⟨(opn (by kernel_rfl)), ?_⟩
    refine GoR.phaseK [(4, .gen [])] [6, 7, 0, 2, 3, 4, 5, 23] [] [(6, .slice ad70 ((ql ++ ([(⟨((tl.getD kk dLast).time), ⟨((tl.getD kk dLast).reply.err), ((tl.getD kk dLast).reply.value)⟩⟩ : LastV)])).length) c71), (7, .bool false), (0, .slice ad F.length ca), (2, .pointer none), (3, .int .i64 0), (4, .pointer (some ⟨c1, 0, none⟩)), (5, .pointer (some ⟨b16, 0, none⟩)), (23, .int .i64 (kk : Nat))] (by kernel_rfl) rfl ak0 ?_
    refine GoR.done (GoQ.blkN (GoQ.thn ?_))
    refine GoC.regT [3, 3] (.rd 0 (.rd 1 .done)) (by kernel_rfl) (by kernel_rfl) ?_
    refine GoR.phaseK [(0, .as_ (.int .i64 ((kk : Nat) + 1)) (.gen [])), (1, .gen [])] [23, 6, 7, 0, 2, 3, 4, 5] [(0, [.prop (Value.int .i64 (IntKind.i64.wrap ((kk : Nat) + 1)) = Value.int .i64 ((kk : Nat) + 1))])] [(23, .int .i64 ((kk : Nat) + 1)), (6, .slice ad70 ((ql ++ ([(⟨((tl.getD kk dLast).time), ⟨((tl.getD kk dLast).reply.err), ((tl.getD kk dLast).reply.value)⟩⟩ : LastV)])).length) c71), (7, .bool false), (0, .slice ad F.length ca), (2, .pointer none), (3, .int .i64 0), (4, .pointer (some ⟨c1, 0, none⟩)), (5, .pointer (some ⟨b16, 0, none⟩))] (by kernel_rfl) rfl (ak (okp (i64ok (by omega) (by omega)) ok0) ak0) ?_
    refine GoR.done ?_
    have hs72 : St w0 ((Sl (some ⟨b62, 0, none⟩) 1 80 3 LastV.cells ([(⟨((tl.getD kk dLast).time), ⟨((tl.getD kk dLast).reply.err), ((tl.getD kk dLast).reply.value)⟩⟩ : LastV)])) :: (Cel b35 #[.int .u64 ((tl.getD kk dLast).time), .int .i64 ((tl.getD kk dLast).reply.err), .string ((tl.getD kk dLast).reply.value)] 80) :: (Sl ad70 c71 80 3 LastV.cells (ql ++ ([(⟨((tl.getD kk dLast).time), ⟨((tl.getD kk dLast).reply.err), ((tl.getD kk dLast).reply.value)⟩⟩ : LastV)]))) :: (Cel c1 #[.slice az51 ((((rr.drop 8).drop 8).drop (8 + ((tl.getD kk dLast).reply.value).size)).length) cz52, .bool false] 126) :: (Sl ao2 co3 5 1 byteC F) :: (Cel b16 #[.pointer none, .pointer none, .int .u64 cnt] 69) :: L) w67 := ((((((hs68.pull 5 rfl).pull 5 rfl).pull 4 rfl).pull 3 rfl).pull 5 rfl).pull 5 rfl)
    have hs73 : St w0 ((Sl ad70 c71 80 3 LastV.cells (ql ++ ([(⟨((tl.getD kk dLast).time), ⟨((tl.getD kk dLast).reply.err), ((tl.getD kk dLast).reply.value)⟩⟩ : LastV)]))) :: (Cel c1 #[.slice az51 ((((rr.drop 8).drop 8).drop (8 + ((tl.getD kk dLast).reply.value).size)).length) cz52, .bool false] 126) :: (Sl ao2 co3 5 1 byteC F) :: (Cel b16 #[.pointer none, .pointer none, .int .u64 cnt] 69) :: L) w67 := hs72.drop 2
    exact GoQ.back (kk + 1, ql ++ ([(⟨((tl.getD kk dLast).time), ⟨((tl.getD kk dLast).reply.err), ((tl.getD kk dLast).reply.value)⟩⟩ : LastV)]), ad70, c71, (((rr.drop 8).drop 8).drop (8 + ((tl.getD kk dLast).reply.value).size)), az51, cz52) [0, 2, 3, 4, 5, 6, 7, 23] (by kernel_rfl) (by show 8 - (kk + 1) < 8 - kk; omega) ⟨⟨by omega, by rw [take_succ_getD (d := dLast) hkx, ← hql], e59, (by first | omega | (simp only [List.length_drop]; omega)), hcz253, hsm254, hz255⟩, hs73⟩
  · have h24' : ¬ (((kk : Nat) : Int) < 8) := of_decide_eq_false h24
    have hke : ¬ kk < tl.length := by rw [hT.len]; omega
    have ea := hrr.trans (tabR_all _ hke)
    have hq74 : ql = tl := (by rw [hql, List.take_of_length_le (by rw [hT.len]; omega)])
    rw [hq74] at hs23 ⊢
    refine GoC.exit (GoQ.skipC (GoQ.skipL (GoQ.hit (GoQ.thn (GoC.seq ?_)))))
    refine GoC.regT [1] (.rd 0 .done) (by kernel_rfl) (by kernel_rfl) ?_
    refine GoR.phaseK [(0, .gen [])] [10, 0, 2, 3, 4, 5, 6, 7] [] [(10, .slice none 0 0), (0, .slice ad F.length ca), (2, .pointer none), (3, .int .i64 0), (4, .pointer (some ⟨c1, 0, none⟩)), (5, .pointer (some ⟨b16, 0, none⟩)), (6, .slice la tl.length lc), (7, .bool false)] (by kernel_rfl) rfl ak0 ?_
    refine GoR.done (GoQ.thn (GoC.seq (GoC.seq ?_)))
    refine GoC.regT [7, 7, 7] (.rd 0 (.ef 1 (.rd 2 .done))) (by kernel_rfl) (by kernel_rfl) ?_
    refine GoR.phaseK [(0, .gen [])] [46, 10, 0, 2, 3, 4, 5, 6, 7] [] [(46, .pointer (some ⟨c1, 0, none⟩)), (10, .slice none 0 0), (0, .slice ad F.length ca), (2, .pointer none), (3, .int .i64 0), (4, .pointer (some ⟨c1, 0, none⟩)), (5, .pointer (some ⟨b16, 0, none⟩)), (6, .slice la tl.length lc), (7, .bool false)] (by kernel_rfl) rfl ak0 ?_
    have hs75 : St w0 ((Cel c1 #[.slice az rr.length cz, .bool false] 126) :: (Sl la lc 80 3 LastV.cells tl) :: (Sl ao2 co3 5 1 byteC F) :: (Cel b16 #[.pointer none, .pointer none, .int .u64 cnt] 69) :: L) w21 := (hs23.pull 1 rfl)
    refine GoR.call rfl rfl (by kernel_rfl) (f := 35) (args := #[.pointer (some ⟨c1, 0, none⟩)]) (by kernel_rfl) Tryz.call35 (cutWord_spec (Sl ao2 co3 5 1 byteC F) rr ((lst m).length : Nat) (fun w h => h.at_ 1 rfl) hczL hsmL hzL (tk_wd ea) (by omega) (by first | omega | (simp only [List.length_drop]; omega)) hs75) ?_
    rintro v82 w83 ⟨az76, cz77, rfl, hcz278, hsm279, hz280, hs81⟩
    have e84 := dr_wd ea
    refine ⟨(opn (by kernel_rfl)), ?_⟩
    refine GoR.phaseK [(2, .gen [])] [11, 10, 0, 2, 3, 4, 5, 6, 7] [] [(11, .int .u64 ((lst m).length : Nat)), (10, .slice none 0 0), (0, .slice ad F.length ca), (2, .pointer none), (3, .int .i64 0), (4, .pointer (some ⟨c1, 0, none⟩)), (5, .pointer (some ⟨b16, 0, none⟩)), (6, .slice la tl.length lc), (7, .bool false)] (by kernel_rfl) rfl ak0 ?_
    refine GoR.done (GoQ.thn (GoC.block ?_))
    have hs85 : St w0 ((Sl none 0 84 2 ItemV.cells ([] : List ItemV)) :: (Cel c1 #[.slice az76 ((rr.drop 8).length) cz77, .bool false] 126) :: (Sl la lc 80 3 LastV.cells tl) :: (Sl ao2 co3 5 1 byteC F) :: (Cel b16 #[.pointer none, .pointer none, .int .u64 cnt] 69) :: L) w83 := St.slNil hs81 84 2 ItemV.cells
    have hs86 : St w0 ((Sl none 0 84 2 ItemV.cells ([] : List ItemV)) :: (Cel c1 #[.slice az76 ((rr.drop 8).length) cz77, .bool false] 126) :: (Sl ao2 co3 5 1 byteC F) :: (Cel b16 #[.pointer none, .pointer none, .int .u64 cnt] 69) :: (Sl la lc 80 3 LastV.cells tl) :: L) w83 := (((((hs85.pull 2 rfl).pull 4 rfl).pull 4 rfl).pull 4 rfl).pull 4 rfl)
    refine GoC.loop (T := Nat × (List ItemV) × (Option Addr) × Nat × (List Int) × (Option Addr) × Nat × Int) (fun gg => [(0, .slice ad F.length ca), (2, .pointer none), (3, .int .i64 0), (4, .pointer (some ⟨c1, 0, none⟩)), (5, .pointer (some ⟨b16, 0, none⟩)), (6, .slice la tl.length lc), (7, .bool false), (10, .slice gg.2.2.1 gg.2.1.length gg.2.2.2.1), (11, .int .u64 gg.2.2.2.2.2.2.2)]) (fun gg w => (gg.1 ≤ (lst m).length ∧ gg.2.1 = (lst m).take gg.1 ∧ gg.2.2.2.2.1 = itmR (lst m) gg.1 ∧ gg.2.2.2.2.2.2.2 = ((lst m).length : Int) - (gg.1 : Nat) ∧ gg.2.2.2.2.1.length ≤ 800000 ∧ gg.2.2.2.2.1.length ≤ gg.2.2.2.2.2.2.1 ∧ (∃ b off, gg.2.2.2.2.2.1 = some ⟨b, off, none⟩) ∧ (∀ w, (Sl ao2 co3 5 1 byteC F).holds w → RowsAt w gg.2.2.2.2.2.1 gg.2.2.2.2.1.length 1 (fun k => byteC (gg.2.2.2.2.1.getD k (0 : Int))))) ∧ St w0 ((Sl gg.2.2.1 gg.2.2.2.1 84 2 ItemV.cells gg.2.1) :: (Cel c1 #[.slice gg.2.2.2.2.2.1 gg.2.2.2.2.1.length gg.2.2.2.2.2.2.1, .bool false] 126) :: (Sl ao2 co3 5 1 byteC F) :: (Cel b16 #[.pointer none, .pointer none, .int .u64 cnt] 69) :: (Sl la lc 80 3 LastV.cells tl) :: L) w) (fun gg => (lst m).length - gg.1) (0, [], none, 0, (rr.drop 8), az76, cz77, ((lst m).length : Nat)) [0, 2, 3, 4, 5, 6, 7, 10, 11] (by kernel_rfl) ⟨⟨Nat.zero_le _, rfl, e84, (show (((lst m).length : Nat) : Int) = ((lst m).length : Int) - ((0 : Nat) : Int) by omega), (by first | omega | (simp only [List.length_drop]; omega)), hcz278, hsm279, hz280⟩, hs86⟩ ?_
    rintro ⟨kk, qi, ia, ic, rr, az, cz, nn⟩ w87 ⟨hp0, hs88⟩
    have hp : kk ≤ (lst m).length ∧ qi = (lst m).take kk ∧ rr = itmR (lst m) kk ∧ nn = ((lst m).length : Int) - (kk : Nat) ∧ rr.length ≤ 800000 ∧ rr.length ≤ cz ∧ (∃ b off, az = some ⟨b, off, none⟩) ∧ (∀ w, (Sl ao2 co3 5 1 byteC F).holds w → RowsAt w az rr.length 1 (fun k => byteC (rr.getD k (0 : Int)))) := hp0
    have hs89 : St w0 ((Sl ia ic 84 2 ItemV.cells qi) :: (Cel c1 #[.slice az rr.length cz, .bool false] 126) :: (Sl ao2 co3 5 1 byteC F) :: (Cel b16 #[.pointer none, .pointer none, .int .u64 cnt] 69) :: (Sl la lc 80 3 LastV.cells tl) :: L) w87 := hs88
    refine GoC.slots (S' := [(0, .slice ad F.length ca), (2, .pointer none), (3, .int .i64 0), (4, .pointer (some ⟨c1, 0, none⟩)), (5, .pointer (some ⟨b16, 0, none⟩)), (6, .slice la tl.length lc), (7, .bool false), (10, .slice ia qi.length ic), (11, .int .u64 nn)]) rfl ?_
    obtain ⟨hk8, hql, hrr, hnn, hrl, hczL, hsmL, hzL⟩ := hp
    refine GoC.seq (GoC.seq ?_)
    refine GoC.regT [63, 63, 63, 63, 63, 63] (.rd 0 (.rd 1 (.rd 2 (.rd 3 (.ef 4 (.rd 5 .done)))))) (by kernel_rfl) (by kernel_rfl) ?_
    refine GoR.phaseK [(0, .gen []), (1, .gen []), (2, .gen [])] [50, 0, 2, 3, 4, 5, 6, 7, 10, 11] [] [(50, .bool (decide ((nn : Int) > 0))), (0, .slice ad F.length ca), (2, .pointer none), (3, .int .i64 0), (4, .pointer (some ⟨c1, 0, none⟩)), (5, .pointer (some ⟨b16, 0, none⟩)), (6, .slice la tl.length lc), (7, .bool false), (10, .slice ia qi.length ic), (11, .int .u64 nn)] (by kernel_rfl) rfl ak0 ?_
    rcases Bool.eq_false_or_eq_true (decide ((nn : Int) > 0)) with h90 | h90
    · refine GoR.setB 50 true (by decide) (by kernel_rfl) h90 ?_
      have h90' : (nn : Int) > 0 := of_decide_eq_true h90
      have hkx : kk < (lst m).length := by omega
      have hx := hT.itemS ((lst m).getD kk dItem) (getD_mem (d := dItem) hkx)
      have hx1 := hx.1
      have hx2 := hx.2
      have hqn : qi.length ≤ (lst m).length := by rw [hql, List.length_take]; omega
      have hfw : (lst m).length ≤ 64 := hT.few
      have ea := hrr.trans (itmR_succ hkx)
      refine GoR.phaseK [(3, .gen [])] [51, 50, 0, 2, 3, 4, 5, 6, 7, 10, 11] [] [(51, .pointer (some ⟨c1, 0, none⟩)), (50, .bool true), (0, .slice ad F.length ca), (2, .pointer none), (3, .int .i64 0), (4, .pointer (some ⟨c1, 0, none⟩)), (5, .pointer (some ⟨b16, 0, none⟩)), (6, .slice la tl.length lc), (7, .bool false), (10, .slice ia qi.length ic), (11, .int .u64 nn)] (by kernel_rfl) rfl ak0 ?_
      have hs91 : St w0 ((Cel c1 #[.slice az rr.length cz, .bool false] 126) :: (Sl ia ic 84 2 ItemV.cells qi) :: (Sl ao2 co3 5 1 byteC F) :: (Cel b16 #[.pointer none, .pointer none, .int .u64 cnt] 69) :: (Sl la lc 80 3 LastV.cells tl) :: L) w87 := (hs89.pull 1 rfl)
      refine GoR.call rfl rfl (by kernel_rfl) (f := 37) (args := #[.pointer (some ⟨c1, 0, none⟩)]) (by kernel_rfl) Tryz.call37 (cutOk_spec rr.length hs91) ?_
      rintro v93 w94 ⟨rfl, hs92⟩
      refine ⟨(opn (by kernel_rfl)), ?_⟩
      refine GoR.phaseK [(5, .gen [])] [53, 0, 2, 3, 4, 5, 6, 7, 10, 11] [] [(53, .bool true), (0, .slice ad F.length ca), (2, .pointer none), (3, .int .i64 0), (4, .pointer (some ⟨c1, 0, none⟩)), (5, .pointer (some ⟨b16, 0, none⟩)), (6, .slice la tl.length lc), (7, .bool false), (10, .slice ia qi.length ic), (11, .int .u64 nn)] (by kernel_rfl) rfl ak0 ?_
      refine GoR.done (GoQ.thn (GoC.condT (by kernel_rfl) (GoC.skip (GoQ.thn (GoC.seq (GoC.block (GoC.seq ?_)))))))
      refine GoC.regT [7, 7, 7] (.rd 0 (.ef 1 (.rd 2 .done))) (by kernel_rfl) (by kernel_rfl) ?_
      refine GoR.phaseK [(0, .gen [])] [56, 0, 2, 3, 4, 5, 6, 7, 10, 11] [] [(56, .pointer (some ⟨c1, 0, none⟩)), (0, .slice ad F.length ca), (2, .pointer none), (3, .int .i64 0), (4, .pointer (some ⟨c1, 0, none⟩)), (5, .pointer (some ⟨b16, 0, none⟩)), (6, .slice la tl.length lc), (7, .bool false), (10, .slice ia qi.length ic), (11, .int .u64 nn)] (by kernel_rfl) rfl ak0 ?_
      refine GoR.call rfl rfl (by kernel_rfl) (f := 36) (args := #[.pointer (some ⟨c1, 0, none⟩)]) (by kernel_rfl) Tryz.call36 (text_spec (Sl ao2 co3 5 1 byteC F) rr (((lst m).getD kk dItem).key) (fun w h => h.at_ 1 rfl) hczL hsmL hzL (tk_txt ea) (by omega) (by first | omega | (simp only [List.length_drop]; omega)) hs92) ?_
      rintro v101 w102 ⟨az95, cz96, rfl, hcz297, hsm298, hz299, hs100⟩
      have e103 := dr_txt ea
      refine ⟨(opn (by kernel_rfl)), ?_⟩
      refine GoR.phaseK [(2, .gen [])] [12, 0, 2, 3, 4, 5, 6, 7, 10, 11] [] [(12, .string (((lst m).getD kk dItem).key)), (0, .slice ad F.length ca), (2, .pointer none), (3, .int .i64 0), (4, .pointer (some ⟨c1, 0, none⟩)), (5, .pointer (some ⟨b16, 0, none⟩)), (6, .slice la tl.length lc), (7, .bool false), (10, .slice ia qi.length ic), (11, .int .u64 nn)] (by kernel_rfl) rfl ak0 ?_
      refine GoR.done (GoQ.thn ?_)
      refine GoC.regT [255, 255, 255, 255, 255, 255, 255, 255] (.rd 0 (.rd 1 (.rd 2 (.ef 3 (.rd 4 (.ef 5 (.ef 6 (.rd 7 .done)))))))) (by kernel_rfl) (by kernel_rfl) ?_
      refine GoR.phaseK [(0, .gen []), (1, .gen []), (2, .gen [])] [60, 59, 58, 0, 2, 3, 4, 5, 6, 7, 10, 11] [] [(60, .pointer (some ⟨c1, 0, none⟩)), (59, .string (((lst m).getD kk dItem).key)), (58, .slice ia qi.length ic), (0, .slice ad F.length ca), (2, .pointer none), (3, .int .i64 0), (4, .pointer (some ⟨c1, 0, none⟩)), (5, .pointer (some ⟨b16, 0, none⟩)), (6, .slice la tl.length lc), (7, .bool false), (10, .slice ia qi.length ic), (11, .int .u64 nn)] (by kernel_rfl) rfl ak0 ?_
      refine GoR.call rfl rfl (by kernel_rfl) (f := 36) (args := #[.pointer (some ⟨c1, 0, none⟩)]) (by kernel_rfl) Tryz.call36 (text_spec (Sl ao2 co3 5 1 byteC F) (rr.drop (8 + (((lst m).getD kk dItem).key).size)) (((lst m).getD kk dItem).value) (fun w h => h.at_ 1 rfl) hcz297 hsm298 hz299 (tk_txt e103) (by omega) (by first | omega | (simp only [List.length_drop]; omega)) hs100) ?_
      rintro v110 w111 ⟨az104, cz105, rfl, hcz2106, hsm2107, hz2108, hs109⟩
      have e112 := dr_txt e103
      refine ⟨(opn (by kernel_rfl)), ?_⟩
      refine GoR.phaseK [(4, .gen [])] [62, 58, 0, 2, 3, 4, 5, 6, 7, 10, 11] [] [(62, .agg #[.string (((lst m).getD kk dItem).key), .string (((lst m).getD kk dItem).value)]), (58, .slice ia qi.length ic), (0, .slice ad F.length ca), (2, .pointer none), (3, .int .i64 0), (4, .pointer (some ⟨c1, 0, none⟩)), (5, .pointer (some ⟨b16, 0, none⟩)), (6, .slice la tl.length lc), (7, .bool false), (10, .slice ia qi.length ic), (11, .int .u64 nn)] (by kernel_rfl) rfl ak0 ?_
      refine GoR.sliceLit rfl (by kernel_rfl) (t := 81) (e := 84) (n := 1) (ps := [(0, .agg #[.string (((lst m).getD kk dItem).key), .string (((lst m).getD kk dItem).value)])]) (by kernel_rfl) (by kernel_rfl) (ti := Tryz.t84) (z := .agg #[.string (⟨#[]⟩ : ByteArray), .string (⟨#[]⟩ : ByteArray)]) (by kernel_rfl) (by kernel_rfl) (by decide) (by decide) (cs := #[.string (((lst m).getD kk dItem).key), .string (((lst m).getD kk dItem).value)]) (by kernel_rfl) hs109 ?_
      intro b113 w114 hs115 hz116
      have hs117 : St w0 ((Sl (some ⟨b113, 0, none⟩) 1 84 2 ItemV.cells ([(⟨(((lst m).getD kk dItem).key), (((lst m).getD kk dItem).value)⟩ : ItemV)])) :: (Cel c1 #[.slice az104 (((rr.drop (8 + (((lst m).getD kk dItem).key).size)).drop (8 + (((lst m).getD kk dItem).value).size)).length) cz105, .bool false] 126) :: (Sl ia ic 84 2 ItemV.cells qi) :: (Sl ao2 co3 5 1 byteC F) :: (Cel b16 #[.pointer none, .pointer none, .int .u64 cnt] 69) :: (Sl la lc 80 3 LastV.cells tl) :: L) w114 := St.slOf (l := [(⟨(((lst m).getD kk dItem).key), (((lst m).getD kk dItem).value)⟩ : ItemV)]) (f := ItemV.cells) hs115 hz116 (itemF).size (by simp only [List.length_cons, List.length_nil, maxLen]; omega) (by kernel_rfl)
      refine ⟨(opn (by kernel_rfl)), ?_⟩
      have hs120 : St w0 ((Sl ia ic 84 2 ItemV.cells qi) :: (Sl (some ⟨b113, 0, none⟩) 1 84 2 ItemV.cells ([(⟨(((lst m).getD kk dItem).key), (((lst m).getD kk dItem).value)⟩ : ItemV)])) :: (Cel c1 #[.slice az104 (((rr.drop (8 + (((lst m).getD kk dItem).key).size)).drop (8 + (((lst m).getD kk dItem).value).size)).length) cz105, .bool false] 126) :: (Sl ao2 co3 5 1 byteC F) :: (Cel b16 #[.pointer none, .pointer none, .int .u64 cnt] 69) :: (Sl la lc 80 3 LastV.cells tl) :: L) w114 := (hs117.pull 2 rfl)
      refine GoR.append rfl (by kernel_rfl) itemsOK itemF (ad := ia) (c := ic) (xs := qi) (ys := [(⟨(((lst m).getD kk dItem).key), (((lst m).getD kk dItem).value)⟩ : ItemV)]) (adx := some ⟨b113, 0, none⟩) (cx := 1) dItem (by kernel_rfl) hs120 (hs120.rows 1 rfl (itemF).size dItem) (fun h => nomatch h) (by simp only [List.length_append, List.length_cons, List.length_nil, List.length_map] at *; omega) (by simp only [List.length_append, List.length_cons, List.length_nil, List.length_map] at *; omega) ?_
      intro ad121 c122 w118 hs119
      refine ⟨(opn (by kernel_rfl)), ?_⟩
      refine GoR.phaseK [(7, .gen [])] [10, 0, 2, 3, 4, 5, 6, 7, 11] [] [(10, .slice ad121 ((qi ++ ([(⟨(((lst m).getD kk dItem).key), (((lst m).getD kk dItem).value)⟩ : ItemV)])).length) c122), (0, .slice ad F.length ca), (2, .pointer none), (3, .int .i64 0), (4, .pointer (some ⟨c1, 0, none⟩)), (5, .pointer (some ⟨b16, 0, none⟩)), (6, .slice la tl.length lc), (7, .bool false), (11, .int .u64 nn)] (by kernel_rfl) rfl ak0 ?_
      refine GoR.done (GoQ.blkN (GoQ.thn ?_))
      refine GoC.regT [7, 7, 7] (.rd 0 (.rd 1 (.rd 2 .done))) (by kernel_rfl) (by kernel_rfl) ?_
      refine GoR.phaseK [(0, .gen []), (1, .as_ (.int .u64 (nn - 1)) (.gen [])), (2, .gen [])] [11, 10, 0, 2, 3, 4, 5, 6, 7] [(1, [.prop (Value.int .u64 (IntKind.u64.wrap (nn - 1)) = Value.int .u64 (nn - 1))])] [(11, .int .u64 (nn - 1)), (10, .slice ad121 ((qi ++ ([(⟨(((lst m).getD kk dItem).key), (((lst m).getD kk dItem).value)⟩ : ItemV)])).length) c122), (0, .slice ad F.length ca), (2, .pointer none), (3, .int .i64 0), (4, .pointer (some ⟨c1, 0, none⟩)), (5, .pointer (some ⟨b16, 0, none⟩)), (6, .slice la tl.length lc), (7, .bool false)] (by kernel_rfl) rfl (ak (okp (u64ok (by omega) (by omega)) ok0) ak0) ?_
      refine GoR.done ?_
      have hs123 : St w0 ((Sl (some ⟨b113, 0, none⟩) 1 84 2 ItemV.cells ([(⟨(((lst m).getD kk dItem).key), (((lst m).getD kk dItem).value)⟩ : ItemV)])) :: (Sl ad121 c122 84 2 ItemV.cells (qi ++ ([(⟨(((lst m).getD kk dItem).key), (((lst m).getD kk dItem).value)⟩ : ItemV)]))) :: (Cel c1 #[.slice az104 (((rr.drop (8 + (((lst m).getD kk dItem).key).size)).drop (8 + (((lst m).getD kk dItem).value).size)).length) cz105, .bool false] 126) :: (Sl ao2 co3 5 1 byteC F) :: (Cel b16 #[.pointer none, .pointer none, .int .u64 cnt] 69) :: (Sl la lc 80 3 LastV.cells tl) :: L) w118 := ((((((hs119.pull 5 rfl).pull 5 rfl).pull 5 rfl).pull 5 rfl).pull 4 rfl).pull 5 rfl)
      have hs124 : St w0 ((Sl ad121 c122 84 2 ItemV.cells (qi ++ ([(⟨(((lst m).getD kk dItem).key), (((lst m).getD kk dItem).value)⟩ : ItemV)]))) :: (Cel c1 #[.slice az104 (((rr.drop (8 + (((lst m).getD kk dItem).key).size)).drop (8 + (((lst m).getD kk dItem).value).size)).length) cz105, .bool false] 126) :: (Sl ao2 co3 5 1 byteC F) :: (Cel b16 #[.pointer none, .pointer none, .int .u64 cnt] 69) :: (Sl la lc 80 3 LastV.cells tl) :: L) w118 := hs123.drop 1
      exact GoQ.back (kk + 1, qi ++ ([(⟨(((lst m).getD kk dItem).key), (((lst m).getD kk dItem).value)⟩ : ItemV)]), ad121, c122, ((rr.drop (8 + (((lst m).getD kk dItem).key).size)).drop (8 + (((lst m).getD kk dItem).value).size)), az104, cz105, nn - 1) [0, 2, 3, 4, 5, 6, 7, 10, 11] (by kernel_rfl) (by show (lst m).length - (kk + 1) < (lst m).length - kk; omega) ⟨⟨by omega, by rw [take_succ_getD (d := dItem) hkx, ← hql], e112, (show (nn - 1 : Int) = _ by rw [hnn]; omega), (by first | omega | (simp only [List.length_drop]; omega)), hcz2106, hsm2107, hz2108⟩, hs124⟩
    · refine GoR.setB 50 false (by decide) (by kernel_rfl) h90 ?_
      have h90' : ¬ ((nn : Int) > 0) := of_decide_eq_false h90
      have hke : ¬ kk < (lst m).length := by omega
      have hrn : rr = [] := hrr.trans (itmR_all hke)
      have hr0 : rr.length = 0 := by rw [hrn]; rfl
      have hq125 : qi = lst m := (by rw [hql, List.take_of_length_le (by omega)])
      rw [hq125] at hs89 ⊢
      refine GoR.phaseK [(3, .gen [])] [51, 50, 0, 2, 3, 4, 5, 6, 7, 10, 11] [] [(51, undef), (50, .bool false), (0, .slice ad F.length ca), (2, .pointer none), (3, .int .i64 0), (4, .pointer (some ⟨c1, 0, none⟩)), (5, .pointer (some ⟨b16, 0, none⟩)), (6, .slice la tl.length lc), (7, .bool false), (10, .slice ia ((lst m).length) ic), (11, .int .u64 nn)] (by kernel_rfl) rfl ak0 ?_
      refine GoR.skip rfl (by kernel_rfl) (opn (by kernel_rfl)) ?_
      refine GoR.phaseK [(5, .gen [])] [53, 0, 2, 3, 4, 5, 6, 7, 10, 11] [] [(53, .bool false), (0, .slice ad F.length ca), (2, .pointer none), (3, .int .i64 0), (4, .pointer (some ⟨c1, 0, none⟩)), (5, .pointer (some ⟨b16, 0, none⟩)), (6, .slice la tl.length lc), (7, .bool false), (10, .slice ia ((lst m).length) ic), (11, .int .u64 nn)] (by kernel_rfl) rfl ak0 ?_
      refine GoR.done (GoQ.thn (GoC.condF (by kernel_rfl) (GoC.exit (GoQ.skipC (GoQ.skipL (GoQ.hit (GoQ.thn (GoC.seq (GoC.seq ?_)))))))))
      refine GoC.regT [2047, 2047, 2047, 2047, 2047, 2047, 2047, 2047, 2047, 2047, 2047] (.rd 0 (.rd 1 (.rd 2 (.ef 3 (.rd 4 (.rd 5 (.rd 6 (.rd 7 (.ef 8 (.rd 9 (.rd 10 .done))))))))))) (by kernel_rfl) (by kernel_rfl) ?_
      refine GoR.phaseK [(0, .gen []), (1, .gen []), (2, .gen [])] [67, 66, 0, 2, 3, 4, 5, 6, 10] [] [(67, .pointer (some ⟨c1, 0, none⟩)), (66, .bool false), (0, .slice ad F.length ca), (2, .pointer none), (3, .int .i64 0), (4, .pointer (some ⟨c1, 0, none⟩)), (5, .pointer (some ⟨b16, 0, none⟩)), (6, .slice la tl.length lc), (10, .slice ia ((lst m).length) ic)] (by kernel_rfl) rfl ak0 ?_
      have hs126 : St w0 ((Cel c1 #[.slice az rr.length cz, .bool false] 126) :: (Sl ia ic 84 2 ItemV.cells (lst m)) :: (Sl ao2 co3 5 1 byteC F) :: (Cel b16 #[.pointer none, .pointer none, .int .u64 cnt] 69) :: (Sl la lc 80 3 LastV.cells tl) :: L) w87 := (hs89.pull 1 rfl)
      refine GoR.call rfl rfl (by kernel_rfl) (f := 37) (args := #[.pointer (some ⟨c1, 0, none⟩)]) (by kernel_rfl) Tryz.call37 (cutOk_spec rr.length hs126) ?_
      rintro v128 w129 ⟨rfl, hs127⟩
      refine ⟨(opn (by kernel_rfl)), ?_⟩
      refine GoR.phaseK [(4, .gen []), (5, .gen []), (6, .gen []), (7, .gen [])] [72, 71, 0, 2, 3, 5, 6, 10] [] [(72, .pointer (some ⟨c1, 0, none⟩)), (71, .bool false), (0, .slice ad F.length ca), (2, .pointer none), (3, .int .i64 0), (5, .pointer (some ⟨b16, 0, none⟩)), (6, .slice la tl.length lc), (10, .slice ia ((lst m).length) ic)] (by kernel_rfl) rfl ak0 ?_
      refine GoR.call rfl rfl (by kernel_rfl) (f := 38) (args := #[.pointer (some ⟨c1, 0, none⟩)]) (by kernel_rfl) Tryz.call38 (cutLeft_spec rr.length hs127) ?_
      rintro v131 w132 ⟨rfl, hs130⟩
      refine ⟨(opn (by kernel_rfl)), ?_⟩
      refine GoR.phaseK [(9, .gen []), (10, .gen [])] [75, 0, 2, 3, 5, 6, 10] [] [(75, .bool (decide (((rr.length : Nat) : Int) > 0))), (0, .slice ad F.length ca), (2, .pointer none), (3, .int .i64 0), (5, .pointer (some ⟨b16, 0, none⟩)), (6, .slice la tl.length lc), (10, .slice ia ((lst m).length) ic)] (by kernel_rfl) rfl ak0 ?_
      refine GoR.done (GoQ.thn ?_)
      refine GoC.cond (t := decide (((rr.length : Nat) : Int) > 0)) (by kernel_rfl) (fun h133 => ?_) (fun h133 => ?_)
      · have h133' : ((rr.length : Nat) : Int) > 0 := of_decide_eq_true h133
        exfalso; omega
      · have h133' : ¬ (((rr.length : Nat) : Int) > 0) := of_decide_eq_false h133
        refine GoC.skip (GoQ.thn (GoC.seq ?_))
        have hmok := ofOK_lst hT.inv
        refine GoC.regT [127, 127, 127, 127, 127, 127, 127] (.rd 0 (.ef 1 (.rd 2 (.rd 3 (.rd 4 (.rd 5 (.rd 6 .done))))))) (by kernel_rfl) (by kernel_rfl) ?_
        refine GoR.phaseK [(0, .gen [])] [77, 0, 2, 3, 5, 10] [] [(77, .slice la tl.length lc), (0, .slice ad F.length ca), (2, .pointer none), (3, .int .i64 0), (5, .pointer (some ⟨b16, 0, none⟩)), (10, .slice ia ((lst m).length) ic)] (by kernel_rfl) rfl ak0 ?_
        refine GoR.call rfl rfl (by kernel_rfl) (f := 39) (args := #[.slice la tl.length lc]) (by kernel_rfl) Tryz.call39 (sof_spec tl (by first | assumption | omega) (hs130.slNone 4 rfl) (fun w h => h.rows 4 rfl (lastF).size _) hs130) ?_
        rintro v139 w140 (⟨p134, rfl, h135, hs136⟩ | ⟨rfl, h137, hs138⟩)
        · refine ⟨(opn (by kernel_rfl)), ?_⟩
          refine GoR.phaseK [(2, .gen []), (3, .gen []), (4, .gen []), (5, .gen []), (6, .gen [])] [14, 13, 0, 2, 3, 5, 10] [] [(14, .int .i64 0), (13, .pointer (some ⟨p134, 0, none⟩)), (0, .slice ad F.length ca), (2, .pointer none), (3, .int .i64 0), (5, .pointer (some ⟨b16, 0, none⟩)), (10, .slice ia ((lst m).length) ic)] (by kernel_rfl) rfl ak0 ?_
          refine GoR.done (GoQ.thn (GoC.seq ?_))
          refine GoC.regT [127, 127, 127, 127, 127, 127, 127] (.rd 0 (.ef 1 (.rd 2 (.rd 3 (.rd 4 (.rd 5 (.rd 6 .done))))))) (by kernel_rfl) (by kernel_rfl) ?_
          refine GoR.phaseK [(0, .gen [])] [82, 14, 13, 0, 2, 3, 5] [] [(82, .slice ia ((lst m).length) ic), (14, .int .i64 0), (13, .pointer (some ⟨p134, 0, none⟩)), (0, .slice ad F.length ca), (2, .pointer none), (3, .int .i64 0), (5, .pointer (some ⟨b16, 0, none⟩))] (by kernel_rfl) rfl ak0 ?_
          refine GoR.call rfl rfl (by kernel_rfl) (f := 40) (args := #[.slice ia ((lst m).length) ic]) (by kernel_rfl) Tryz.call40 (of_spec (lst m) (by first | assumption | omega) (fun w h => h.rows 2 rfl (itemF).size _) hs136) ?_
          rintro v147 w148 (⟨p141, r142, rfl, h143, hs144⟩ | ⟨rfl, h145, hs146⟩)
          · refine ⟨(opn (by kernel_rfl)), ?_⟩
            refine GoR.phaseK [(2, .gen []), (3, .gen []), (4, .gen []), (5, .gen []), (6, .gen [])] [16, 15, 14, 13, 0, 2, 3, 5] [] [(16, .int .i64 0), (15, .pointer (some ⟨p141, 0, none⟩)), (14, .int .i64 0), (13, .pointer (some ⟨p134, 0, none⟩)), (0, .slice ad F.length ca), (2, .pointer none), (3, .int .i64 0), (5, .pointer (some ⟨b16, 0, none⟩))] (by kernel_rfl) rfl ak0 ?_
            refine GoR.done (GoQ.thn (GoC.seq (GoC.seq ?_)))
            refine GoC.regT [63, 63, 63, 63, 63, 63] (.rd 0 (.rd 1 (.rd 2 (.rd 3 (.rd 4 (.rd 5 .done)))))) (by kernel_rfl) (by kernel_rfl) ?_
            refine GoR.phaseK [(0, .gen []), (1, .gen []), (2, .gen []), (3, .gen []), (4, .gen []), (5, .gen [])] [91, 15, 13, 0, 2, 3, 5] [] [(91, .bool false), (15, .pointer (some ⟨p141, 0, none⟩)), (13, .pointer (some ⟨p134, 0, none⟩)), (0, .slice ad F.length ca), (2, .pointer none), (3, .int .i64 0), (5, .pointer (some ⟨b16, 0, none⟩))] (by kernel_rfl) rfl ak0 ?_
            refine GoR.done (GoQ.thn (GoC.condF (by kernel_rfl) (GoC.skip (GoQ.thn (GoC.seq (GoC.seq ?_))))))
            refine GoC.regT [1023, 1023, 1023, 1023, 1023, 1023, 1023, 1023, 1023, 1023] (.rd 0 (.rd 1 (.rd 2 (.rd 3 (.rd 4 (.rd 5 (.ef 6 (.rd 7 (.rd 8 (.ef 9 .done)))))))))) (by kernel_rfl) (by kernel_rfl) ?_
            refine GoR.phaseK [(0, .gen []), (1, .gen []), (2, .gen []), (3, .gen []), (4, .gen []), (5, .gen [])] [97, 95, 94, 93, 0, 2, 3, 5] [] [(97, .pointer (some ⟨b16, 1, none⟩)), (95, .pointer (some ⟨p141, 0, none⟩)), (94, .pointer (some ⟨p134, 0, none⟩)), (93, .pointer (some ⟨b16, 0, none⟩)), (0, .slice ad F.length ca), (2, .pointer none), (3, .int .i64 0), (5, .pointer (some ⟨b16, 0, none⟩))] (by kernel_rfl) rfl ak0 ?_
            refine GoR.store rfl rfl (by kernel_rfl) (b := b16) (off := 1) (v := .pointer (some ⟨p134, 0, none⟩)) (by kernel_rfl) (by kernel_rfl) (ti := Tryz.t66) (by kernel_rfl) hs144 6 rfl (by kernel_rfl) (by kernel_rfl) (Nat.le_of_ble_eq_true (by kernel_rfl)) (cs' := #[.pointer none, .pointer (some ⟨p134, 0, none⟩), .int .u64 cnt]) (L' := (Cel p141 #[.map (some r142)] 87) :: (MapA Value.string Value.string r142 (pairsOf (lst m))) :: (Cel p134 (arrCells LastV.cells tl) 90) :: (Cel c1 #[.slice az rr.length cz, .bool false] 126) :: (Sl ia ic 84 2 ItemV.cells (lst m)) :: (Sl ao2 co3 5 1 byteC F) :: (Cel b16 #[.pointer none, .pointer (some ⟨p134, 0, none⟩), .int .u64 cnt] 69) :: (Sl la lc 80 3 LastV.cells tl) :: L) (by kernel_rfl) rfl ?_
            intro w149 hs150
            refine ⟨(opn (by kernel_rfl)), ?_⟩
            refine GoR.phaseK [(7, .gen []), (8, .gen [])] [99, 95, 0, 2, 3, 5] [] [(99, .pointer (some ⟨b16, 0, none⟩)), (95, .pointer (some ⟨p141, 0, none⟩)), (0, .slice ad F.length ca), (2, .pointer none), (3, .int .i64 0), (5, .pointer (some ⟨b16, 0, none⟩))] (by kernel_rfl) rfl ak0 ?_
            refine GoR.store rfl rfl (by kernel_rfl) (b := b16) (off := 0) (v := .pointer (some ⟨p141, 0, none⟩)) (by kernel_rfl) (by kernel_rfl) (ti := Tryz.t64) (by kernel_rfl) hs150 6 rfl (by kernel_rfl) (by kernel_rfl) (Nat.le_of_ble_eq_true (by kernel_rfl)) (cs' := #[.pointer (some ⟨p141, 0, none⟩), .pointer (some ⟨p134, 0, none⟩), .int .u64 cnt]) (L' := (Cel p141 #[.map (some r142)] 87) :: (MapA Value.string Value.string r142 (pairsOf (lst m))) :: (Cel p134 (arrCells LastV.cells tl) 90) :: (Cel c1 #[.slice az rr.length cz, .bool false] 126) :: (Sl ia ic 84 2 ItemV.cells (lst m)) :: (Sl ao2 co3 5 1 byteC F) :: (Cel b16 #[.pointer (some ⟨p141, 0, none⟩), .pointer (some ⟨p134, 0, none⟩), .int .u64 cnt] 69) :: (Sl la lc 80 3 LastV.cells tl) :: L) (by kernel_rfl) rfl ?_
            intro w151 hs152
            refine ⟨(opn (by kernel_rfl)), ?_⟩
            refine GoR.done (GoQ.thn (GoC.seq ?_))
            have hP : TInv (tl, pairsOf (lst m)) := ⟨hT.len, pairs_inv hT.inv, hT.all⟩
            refine GoC.regT [31, 31, 31, 31, 31] (.rd 0 (.ef 1 (.rd 2 (.ef 3 (.rd 4 .done))))) (by kernel_rfl) (by kernel_rfl) ?_
            refine GoR.phaseK [(0, .gen [])] [100, 0, 2, 3, 5] [] [(100, .pointer (some ⟨b16, 0, none⟩)), (0, .slice ad F.length ca), (2, .pointer none), (3, .int .i64 0), (5, .pointer (some ⟨b16, 0, none⟩))] (by kernel_rfl) rfl ak0 ?_
            have hs153 : St w0 ((Cel b16 #[.pointer (some ⟨p141, 0, none⟩), .pointer (some ⟨p134, 0, none⟩), .int .u64 cnt] 69) :: (Cel p134 (arrCells LastV.cells tl) 90) :: (Cel p141 #[.map (some r142)] 87) :: (MapA Value.string Value.string r142 (pairsOf (lst m))) :: (Cel c1 #[.slice az rr.length cz, .bool false] 126) :: (Sl ia ic 84 2 ItemV.cells (lst m)) :: (Sl ao2 co3 5 1 byteC F) :: (Sl la lc 80 3 LastV.cells tl) :: L) w151 := ((((hs152.pull 1 rfl).pull 1 rfl).pull 2 rfl).pull 6 rfl)
            refine GoR.call rfl rfl (by kernel_rfl) (f := 15) (args := #[.pointer (some ⟨b16, 0, none⟩)]) (by kernel_rfl) Tryz.call15 (bytes_spec tl (pairsOf (lst m)) cnt (by first | assumption | omega) (Nat.le_trans hP.inv.len (by decide)) hP.lastS hP.few hP.itemS (by first | assumption | omega) hs153) ?_
            rintro v157 w158 ⟨ad154, c155, rfl, hs156⟩
            refine ⟨(opn (by kernel_rfl)), ?_⟩
            refine GoR.phaseK [(2, .gen [])] [102, 101, 2, 3, 5] [] [(102, .slice ad F.length ca), (101, .slice ad154 ((wd cnt ++ tailB tl (lst (pairsOf (lst m)))).length) c155), (2, .pointer none), (3, .int .i64 0), (5, .pointer (some ⟨b16, 0, none⟩))] (by kernel_rfl) rfl ak0 ?_
            refine GoR.call rfl rfl (by kernel_rfl) (f := 41) (args := #[.slice ad154 ((wd cnt ++ tailB tl (lst (pairsOf (lst m)))).length) c155, .slice ad F.length ca]) (by kernel_rfl) Tryz.call41 (bytesEq_spec (wd cnt ++ tailB tl (lst (pairsOf (lst m)))) F (by rw [lst_pairs hT.inv, hF]) ((byt_wd _).app (byt_tail _ _)) (by rw [hF]; exact (byt_wd _).app (byt_tail _ _)) (fun w h => h.rows 0 rfl (byteF).size _) (fun w h => hr _ (h.drop 9)) hs156) ?_
            rintro v160 w161 ⟨rfl, hs159⟩
            refine ⟨(opn (by kernel_rfl)), ?_⟩
            refine GoR.phaseK [(4, .gen [])] [104, 2, 3, 5] [] [(104, .bool false), (2, .pointer none), (3, .int .i64 0), (5, .pointer (some ⟨b16, 0, none⟩))] (by kernel_rfl) rfl ak0 ?_
            refine GoR.done (GoQ.thn (GoC.condF (by kernel_rfl) (GoC.skip (GoQ.thn (GoC.seq ?_)))))
            refine GoC.regT [7, 7, 7] (.rd 0 (.rd 1 (.rd 2 .done))) (by kernel_rfl) (by kernel_rfl) ?_
            refine GoR.phaseK [(0, .gen []), (1, .gen []), (2, .gen [])] [3, 2] [] [(3, .int .i64 0), (2, .pointer (some ⟨b16, 0, none⟩))] (by kernel_rfl) rfl ak0 ?_
            refine GoR.done (GoQ.thn (GoC.ret ?_))
            refine GoQ.done (.inl rfl) (v := .tuple #[.pointer (some ⟨b16, 0, none⟩), .int .i64 0]) (fun a hf => results2 rfl (by kernel_rfl) (by kernel_rfl) a hf) ?_
            have hs162 : St w0 ((Sl ad154 c155 5 1 byteC (wd cnt ++ tailB tl (lst (pairsOf (lst m))))) :: (Cel c1 #[.slice az rr.length cz, .bool false] 126) :: (Sl ia ic 84 2 ItemV.cells (lst m)) :: (Sl ao2 co3 5 1 byteC F) :: (Sl la lc 80 3 LastV.cells tl) :: (Cel b16 #[.pointer (some ⟨p141, 0, none⟩), .pointer (some ⟨p134, 0, none⟩), .int .u64 cnt] 69) :: (Cel p134 (arrCells LastV.cells tl) 90) :: (Cel p141 #[.map (some r142)] 87) :: (MapA Value.string Value.string r142 (pairsOf (lst m))) :: L) w161 := (((((((((hs159.pull 4 rfl).pull 4 rfl).pull 4 rfl).pull 4 rfl).pull 8 rfl).pull 8 rfl).pull 8 rfl).pull 8 rfl).pull 8 rfl)
            have hs163 : St w0 ((Cel b16 #[.pointer (some ⟨p141, 0, none⟩), .pointer (some ⟨p134, 0, none⟩), .int .u64 cnt] 69) :: (Cel p134 (arrCells LastV.cells tl) 90) :: (Cel p141 #[.map (some r142)] 87) :: (MapA Value.string Value.string r142 (pairsOf (lst m))) :: L) w161 := hs162.drop 5
            exact ⟨b16, p134, p141, r142, rfl, hs163⟩
          · exact absurd (hmok.symm.trans h145) (by decide)
        · exact absurd (htok.symm.trans h137) (by decide)
end Go.Proofs.YtkiaagddmlddpaaGreatDoor
