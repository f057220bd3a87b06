/-
  The walks of package watch.
-/
import Derived.Test.YtikbfcejdmiciaaProg
import Derived.Test.YtikbfcejdmiciaaSxE
namespace Go.Proofs.Ytikbfcejdmiciaa
open Go.RowKit Go.Sx
set_option linter.unusedVariables false
set_option linter.unusedSimpArgs false
set_option maxRecDepth 100000

structure WS where
  span : Int
  runs : Bool
  stop : Int
  done : Int
  great : Int
def WS.cells (s : WS) : Array Value := #[.int .u64 s.span, .bool s.runs, .int .u64 s.stop, .int .u64 s.done, .int .u64 s.great]

/-- package watch's look -/
def look (s : WS) (now : Int) (busy ready : Bool) (done great : Int) : Int × WS :=
  if (!busy || decide (done > s.done)) = true then (0, ⟨16, busy, if busy = true then min now 4611686018427387904 + 16 else s.stop, done, great⟩)
  else if ready = false then (0, ⟨s.span, false, s.stop, done, great⟩)
  else if (decide (great > s.great) || !s.runs) = true then (0, ⟨s.span, true, min now 4611686018427387904 + s.span, done, great⟩)
  else if min now 4611686018427387904 ≥ s.stop then (IntKind.u64.wrap (great + 1), ⟨min (2 * s.span) 1024, true, min now 4611686018427387904 + min (2 * s.span) 1024, done, great⟩)
  else (0, ⟨s.span, s.runs, s.stop, done, great⟩)
theorem run_spec {w0 w : World} {L : List Asn} {bn bw b : Nat} (now sp en dn gr : Int) (ru : Bool) (h1 : 0 ≤ now) (h2 : now ≤ 4611686018427387904) (h3 : 0 ≤ sp) (h4 : sp ≤ 1024)
    (hs : St w0 ((Cel bn #[.int .u64 now] 28) :: (Cel bw #[.pointer (some ⟨b, 0, none⟩)] 24) :: (Cel b #[.int .u64 sp, .bool ru, .int .u64 en, .int .u64 dn, .int .u64 gr] 39) :: L) w) : Calls Try.prog 11 #[.pointer (some ⟨bn, 0, none⟩), .pointer (some ⟨bw, 0, none⟩)] w (Ret fun v w' => v = .tuple #[] ∧ St w0 ((Cel bn #[.int .u64 now] 28) :: (Cel bw #[.pointer (some ⟨b, 0, none⟩)] 24) :: (Cel b #[.int .u64 sp, .bool true, .int .u64 (now + sp), .int .u64 dn, .int .u64 gr] 39) :: L) w') := by
  refine enter (args := [.pointer (some ⟨bn, 0, none⟩), .pointer (some ⟨bw, 0, none⟩)]) Try.func11 rfl Try.ntmps11 (Nat.le_of_ble_eq_true (by kernel_rfl)) ?_
  refine GoC.slots (S' := [(0, .pointer (some ⟨bn, 0, none⟩)), (1, .pointer (some ⟨bw, 0, none⟩))]) rfl ?_
  refine GoC.regD [0, 0, 0, 0, 8, 24, 56, 124, 121, 377, 889, 2047, 4095, 8191] [.rd 0, .rd 1, .rd 2, .rd 3, .rd 4, .rd 5, .rd 6, .rd 7, .rd 8, .rd 9, .ef 10, .rd 11, .rd 12, .ef 13] (by kernel_rfl) (by kernel_rfl) noPan_body (by kernel_rfl) hs ?_
  intro w1 hs2 hw3
  refine GoR.phase [(0, .gen [.pointer (some ⟨b, 0, none⟩)]), (1, .gen [.pointer (some ⟨b, 0, none⟩)]), (2, .gen [.int .u64 now]), (3, .gen [.pointer (some ⟨b, 0, none⟩)]), (4, .gen []), (5, .gen []), (6, .gen [.int .u64 sp]), (7, .as_ (.int .u64 (now + sp)) (.gen [])), (8, .gen []), (9, .gen [])] [(0, [.cell ⟨bw, 0, none⟩ (.pointer (some ⟨b, 0, none⟩))]), (1, [.cell ⟨bw, 0, none⟩ (.pointer (some ⟨b, 0, none⟩))]), (2, [.cell ⟨bn, 0, none⟩ (.int .u64 now)]), (3, [.cell ⟨bw, 0, none⟩ (.pointer (some ⟨b, 0, none⟩))]), (6, [.cell ⟨b, 0, none⟩ (.int .u64 sp)]), (7, [.prop (Value.int .u64 (IntKind.u64.wrap (now + sp)) = Value.int .u64 (now + sp))])] [(11, .pointer (some ⟨b, 1, none⟩)), (10, .pointer (some ⟨b, 0, none⟩)), (9, .int .u64 (now + sp)), (8, .int .u64 sp), (7, .pointer (some ⟨b, 0, none⟩)), (6, .pointer (some ⟨b, 0, none⟩)), (5, .pointer (some ⟨b, 0, none⟩)), (4, .int .u64 now), (3, .pointer (some ⟨b, 0, none⟩)), (2, .pointer (some ⟨b, 0, none⟩)), (0, .pointer (some ⟨bn, 0, none⟩)), (1, .pointer (some ⟨bw, 0, none⟩))] (by kernel_rfl) rfl (ak (okc (hs2.cell 1 rfl (by kernel_rfl)) ok0) (ak (okc (hs2.cell 1 rfl (by kernel_rfl)) ok0) (ak (okc (hs2.cell 0 rfl (by kernel_rfl)) ok0) (ak (okc (hs2.cell 1 rfl (by kernel_rfl)) ok0) (ak (okc (hs2.cell 2 rfl (by kernel_rfl)) ok0) (ak (okp (u64ok (by omega) (by omega)) ok0) ak0)))))) ?_
  refine GoR.store rfl rfl (by kernel_rfl) (b := b) (off := 1) (v := .bool true) (by kernel_rfl) (by kernel_rfl) (ti := Try.t4) (by kernel_rfl) hs2 2 rfl (by kernel_rfl) (by kernel_rfl) (Nat.le_of_ble_eq_true (by kernel_rfl)) (cs' := #[.int .u64 sp, .bool true, .int .u64 en, .int .u64 dn, .int .u64 gr]) (L' := (Cel bn #[.int .u64 now] 28) :: (Cel bw #[.pointer (some ⟨b, 0, none⟩)] 24) :: (Cel b #[.int .u64 sp, .bool true, .int .u64 en, .int .u64 dn, .int .u64 gr] 39) :: L) (by kernel_rfl) rfl ?_
  intro w4 hs5
  refine ⟨(opl (n := [.prop (Value.int .u64 (IntKind.u64.wrap (now + sp)) = Value.int .u64 (now + sp)), .cell ⟨bn, 0, none⟩ (.int .u64 now), .cell ⟨bw, 0, none⟩ (.pointer (some ⟨b, 0, none⟩))]) (by kernel_rfl) (okp (u64ok (by omega) (by omega)) (okc (hs5.cell 0 rfl (by kernel_rfl)) (okc (hs5.cell 1 rfl (by kernel_rfl)) ok0)))), ?_⟩
  refine GoR.phase [(11, .gen []), (12, .gen [])] [] [(13, .pointer (some ⟨b, 2, none⟩)), (12, .pointer (some ⟨b, 0, none⟩)), (11, .pointer (some ⟨b, 1, none⟩)), (10, .pointer (some ⟨b, 0, none⟩)), (9, .int .u64 (now + sp)), (8, .int .u64 sp), (7, .pointer (some ⟨b, 0, none⟩)), (6, .pointer (some ⟨b, 0, none⟩)), (5, .pointer (some ⟨b, 0, none⟩)), (4, .int .u64 now), (3, .pointer (some ⟨b, 0, none⟩)), (2, .pointer (some ⟨b, 0, none⟩)), (0, .pointer (some ⟨bn, 0, none⟩)), (1, .pointer (some ⟨bw, 0, none⟩))] (by kernel_rfl) rfl ak0 ?_
  refine GoR.store rfl rfl (by kernel_rfl) (b := b) (off := 2) (v := .int .u64 (now + sp)) (by kernel_rfl) (by kernel_rfl) (ti := Try.t28) (by kernel_rfl) hs5 2 rfl (by kernel_rfl) (by kernel_rfl) (Nat.le_of_ble_eq_true (by kernel_rfl)) (cs' := #[.int .u64 sp, .bool true, .int .u64 (now + sp), .int .u64 dn, .int .u64 gr]) (L' := (Cel bn #[.int .u64 now] 28) :: (Cel bw #[.pointer (some ⟨b, 0, none⟩)] 24) :: (Cel b #[.int .u64 sp, .bool true, .int .u64 (now + sp), .int .u64 dn, .int .u64 gr] 39) :: L) (by kernel_rfl) rfl ?_
  intro w6 hs7
  refine ⟨(opn (by kernel_rfl)), ?_⟩
  refine GoR.done ?_
  refine GoQ.done (.inr rfl) (fun a hf => results0 rfl a hf) ?_
  exact ⟨rfl, hs7⟩
theorem look_spec {w0 w : World} {L : List Asn} {b : Nat} (s : WS) (now : Int) (busy ready : Bool) (done great : Int) (h1 : 0 ≤ now) (h3 : 0 ≤ s.span) (h4 : s.span ≤ 1024)
    (hs : St w0 ((Cel b (WS.cells s) 39) :: L) w) : Calls Try.prog 8 #[.pointer (some ⟨b, 0, none⟩), .int .u64 now, .bool busy, .bool ready, .int .u64 done, .int .u64 great] w (Ret fun v w' => v = .int .u64 (look s now busy ready done great).1 ∧ St w0 ((Cel b (WS.cells (look s now busy ready done great).2) 39) :: L) w') := by
  refine enter (args := [.pointer (some ⟨b, 0, none⟩), .int .u64 now, .bool busy, .bool ready, .int .u64 done, .int .u64 great]) Try.func8 rfl Try.ntmps8 (Nat.le_of_ble_eq_true (by kernel_rfl)) ?_
  refine GoC.slots (S' := [(0, .pointer (some ⟨b, 0, none⟩)), (1, .int .u64 now), (2, .bool busy), (3, .bool ready), (4, .int .u64 done), (5, .int .u64 great)]) rfl ?_
  refine GoC.seq ?_
  refine GoC.regT [7, 7, 7] [.ef 0, .ef 1, .rd 2] (by kernel_rfl) (by kernel_rfl) ?_
  refine GoR.box rfl rfl (by kernel_rfl) (v := .pointer (some ⟨b, 0, none⟩)) (by kernel_rfl) hs (cs := #[.pointer (some ⟨b, 0, none⟩)]) (by kernel_rfl) ?_
  intro b1 w2 hs3
  refine ⟨(opn (by kernel_rfl)), ?_⟩
  refine GoR.box rfl rfl (by kernel_rfl) (v := .int .u64 now) (by kernel_rfl) hs3 (cs := #[.int .u64 now]) (by kernel_rfl) ?_
  intro b4 w5 hs6
  refine ⟨(opn (by kernel_rfl)), ?_⟩
  refine GoR.phaseK [(2, .gen [])] [12, 7, 6, 2, 3, 4, 5] [] [(12, .int .u64 0), (7, .pointer (some ⟨b4, 0, none⟩)), (6, .pointer (some ⟨b1, 0, none⟩)), (2, .bool busy), (3, .bool ready), (4, .int .u64 done), (5, .int .u64 great)] (by kernel_rfl) rfl ak0 ?_
  refine GoR.done ?_
  refine GoQ.thn ?_
  refine GoC.seq ?_
  refine GoC.seq ?_
  refine GoC.regT [3, 3] [.rd 0, .rd 1] (by kernel_rfl) (by kernel_rfl) ?_
  refine GoR.phaseK [(0, .gen [.pointer (some ⟨b, 0, none⟩)]), (1, .gen [])] [17, 12, 7, 6, 2, 3, 4, 5] [(0, [.cell ⟨b1, 0, none⟩ (.pointer (some ⟨b, 0, none⟩))])] [(17, .bool false), (12, .int .u64 0), (7, .pointer (some ⟨b4, 0, none⟩)), (6, .pointer (some ⟨b1, 0, none⟩)), (2, .bool busy), (3, .bool ready), (4, .int .u64 done), (5, .int .u64 great)] (by kernel_rfl) rfl (ak (okc (hs6.cell 1 rfl (by kernel_rfl)) ok0) ak0) ?_
  refine GoR.done ?_
  refine GoQ.thn ?_
  refine GoC.condF (by kernel_rfl) ?_
  refine GoC.skip ?_
  refine GoQ.thn ?_
  refine GoC.seq ?_
  refine GoC.regT [7, 7, 7] [.rd 0, .rd 1, .ef 2] (by kernel_rfl) (by kernel_rfl) ?_
  refine GoR.phase [(0, .gen [.int .u64 now]), (1, .as_ (.int .u64 (min now 4611686018427387904)) (.gen []))] [(0, [.cell ⟨b4, 0, none⟩ (.int .u64 now)]), (1, [.prop (Value.int .u64 (if 4611686018427387904 < now then 4611686018427387904 else now) = Value.int .u64 (min now 4611686018427387904))])] [(19, .int .u64 (min now 4611686018427387904)), (18, .int .u64 now), (17, .bool false), (12, .int .u64 0), (7, .pointer (some ⟨b4, 0, none⟩)), (6, .pointer (some ⟨b1, 0, none⟩)), (2, .bool busy), (3, .bool ready), (4, .int .u64 done), (5, .int .u64 great)] (by kernel_rfl) rfl (ak (okc (hs6.cell 0 rfl (by kernel_rfl)) ok0) (ak (okp minok ok0) ak0)) ?_
  refine GoR.store rfl rfl (by kernel_rfl) (b := b4) (off := 0) (v := .int .u64 (min now 4611686018427387904)) (by kernel_rfl) (by kernel_rfl) (ti := Try.t28) (by kernel_rfl) hs6 0 rfl (by kernel_rfl) (by kernel_rfl) (Nat.le_of_ble_eq_true (by kernel_rfl)) (cs' := #[.int .u64 (min now 4611686018427387904)]) (L' := (Cel b4 #[.int .u64 (min now 4611686018427387904)] 28) :: (Cel b1 #[.pointer (some ⟨b, 0, none⟩)] 24) :: (Cel b (WS.cells s) 39) :: L) (by kernel_rfl) rfl ?_
  intro w7 hs8
  refine ⟨(opn (by kernel_rfl)), ?_⟩
  refine GoR.done ?_
  refine GoQ.thn ?_
  refine GoC.seq ?_
  refine GoC.regD [0, 0, 2, 6, 14, 31, 0, 0, 128, 384, 896, 1984, 63, 8191] [.rd 0, .rd 1, .rd 2, .rd 3, .rd 4, .rd 5, .rd 6, .rd 7, .rd 8, .rd 9, .rd 10, .rd 11, .rd 12, .rd 13] (by kernel_rfl) (by kernel_rfl) noPan_body (by kernel_rfl) hs8 ?_
  intro w9 hs10 hw11
  refine GoR.phaseK [(0, .gen []), (1, .gen [.pointer (some ⟨b, 0, none⟩)]), (2, .gen []), (3, .gen []), (4, .gen [.int .u64 s.done]), (5, .gen []), (6, .gen []), (7, .gen [.pointer (some ⟨b, 0, none⟩)]), (8, .gen []), (9, .gen []), (10, .gen [.int .u64 s.great]), (11, .gen []), (12, .gen []), (13, .gen [])] [14, 13, 12, 7, 6, 2, 3, 4, 5] [(1, [.cell ⟨b1, 0, none⟩ (.pointer (some ⟨b, 0, none⟩))]), (4, [.cell ⟨b, 3, none⟩ (.int .u64 s.done)]), (7, [.cell ⟨b1, 0, none⟩ (.pointer (some ⟨b, 0, none⟩))]), (10, [.cell ⟨b, 4, none⟩ (.int .u64 s.great)])] [(14, .bool (decide ((great : Int) > s.great))), (13, .bool (decide ((done : Int) > s.done))), (12, .int .u64 0), (7, .pointer (some ⟨b4, 0, none⟩)), (6, .pointer (some ⟨b1, 0, none⟩)), (2, .bool busy), (3, .bool ready), (4, .int .u64 done), (5, .int .u64 great)] (by kernel_rfl) rfl (ak (okc (hs10.cell 1 rfl (by kernel_rfl)) ok0) (ak (okc (hs10.cell 2 rfl (by kernel_rfl)) ok0) (ak (okc (hs10.cell 1 rfl (by kernel_rfl)) ok0) (ak (okc (hs10.cell 2 rfl (by kernel_rfl)) ok0) ak0)))) ?_
  refine GoR.done ?_
  refine GoQ.thn ?_
  refine GoC.seq ?_
  refine GoC.regD [0, 0, 0, 0, 5, 21, 53, 127, 255, 511] [.rd 0, .rd 1, .rd 2, .rd 3, .rd 4, .rd 5, .ef 6, .rd 7, .rd 8, .ef 9] (by kernel_rfl) (by kernel_rfl) noPan_body (by kernel_rfl) hs10 ?_
  intro w12 hs13 hw14
  refine GoR.phase [(0, .gen [.pointer (some ⟨b, 0, none⟩)]), (1, .gen [.pointer (some ⟨b, 0, none⟩)]), (2, .gen []), (3, .gen []), (4, .gen []), (5, .gen [])] [(0, [.cell ⟨b1, 0, none⟩ (.pointer (some ⟨b, 0, none⟩))]), (1, [.cell ⟨b1, 0, none⟩ (.pointer (some ⟨b, 0, none⟩))])] [(37, .pointer (some ⟨b, 3, none⟩)), (36, .pointer (some ⟨b, 0, none⟩)), (35, .int .u64 great), (34, .int .u64 done), (33, .pointer (some ⟨b, 0, none⟩)), (32, .pointer (some ⟨b, 0, none⟩)), (14, .bool (decide ((great : Int) > s.great))), (13, .bool (decide ((done : Int) > s.done))), (12, .int .u64 0), (7, .pointer (some ⟨b4, 0, none⟩)), (6, .pointer (some ⟨b1, 0, none⟩)), (2, .bool busy), (3, .bool ready), (4, .int .u64 done), (5, .int .u64 great)] (by kernel_rfl) rfl (ak (okc (hs13.cell 1 rfl (by kernel_rfl)) ok0) (ak (okc (hs13.cell 1 rfl (by kernel_rfl)) ok0) ak0)) ?_
  refine GoR.store rfl rfl (by kernel_rfl) (b := b) (off := 3) (v := .int .u64 done) (by kernel_rfl) (by kernel_rfl) (ti := Try.t28) (by kernel_rfl) hs13 2 rfl (by kernel_rfl) (by kernel_rfl) (Nat.le_of_ble_eq_true (by kernel_rfl)) (cs' := #[.int .u64 s.span, .bool s.runs, .int .u64 s.stop, .int .u64 done, .int .u64 s.great]) (L' := (Cel b4 #[.int .u64 (min now 4611686018427387904)] 28) :: (Cel b1 #[.pointer (some ⟨b, 0, none⟩)] 24) :: (Cel b #[.int .u64 s.span, .bool s.runs, .int .u64 s.stop, .int .u64 done, .int .u64 s.great] 39) :: L) (by kernel_rfl) rfl ?_
  intro w15 hs16
  refine ⟨(opl (n := [.cell ⟨b1, 0, none⟩ (.pointer (some ⟨b, 0, none⟩))]) (by kernel_rfl) (okc (hs16.cell 1 rfl (by kernel_rfl)) ok0)), ?_⟩
  refine GoR.phase [(7, .gen []), (8, .gen [])] [] [(39, .pointer (some ⟨b, 4, none⟩)), (38, .pointer (some ⟨b, 0, none⟩)), (37, .pointer (some ⟨b, 3, none⟩)), (36, .pointer (some ⟨b, 0, none⟩)), (35, .int .u64 great), (34, .int .u64 done), (33, .pointer (some ⟨b, 0, none⟩)), (32, .pointer (some ⟨b, 0, none⟩)), (14, .bool (decide ((great : Int) > s.great))), (13, .bool (decide ((done : Int) > s.done))), (12, .int .u64 0), (7, .pointer (some ⟨b4, 0, none⟩)), (6, .pointer (some ⟨b1, 0, none⟩)), (2, .bool busy), (3, .bool ready), (4, .int .u64 done), (5, .int .u64 great)] (by kernel_rfl) rfl ak0 ?_
  refine GoR.store rfl rfl (by kernel_rfl) (b := b) (off := 4) (v := .int .u64 great) (by kernel_rfl) (by kernel_rfl) (ti := Try.t28) (by kernel_rfl) hs16 2 rfl (by kernel_rfl) (by kernel_rfl) (Nat.le_of_ble_eq_true (by kernel_rfl)) (cs' := #[.int .u64 s.span, .bool s.runs, .int .u64 s.stop, .int .u64 done, .int .u64 great]) (L' := (Cel b4 #[.int .u64 (min now 4611686018427387904)] 28) :: (Cel b1 #[.pointer (some ⟨b, 0, none⟩)] 24) :: (Cel b #[.int .u64 s.span, .bool s.runs, .int .u64 s.stop, .int .u64 done, .int .u64 great] 39) :: L) (by kernel_rfl) rfl ?_
  intro w17 hs18
  refine ⟨(opn (by kernel_rfl)), ?_⟩
  refine GoR.done ?_
  refine GoQ.thn ?_
  refine GoC.seq ?_
  refine GoC.regT [3, 3] [.rd 0, .rd 1] (by kernel_rfl) (by kernel_rfl) ?_
  refine GoR.phaseK [(0, .gen []), (1, .gen [])] [15, 14, 13, 12, 7, 6, 2, 3, 5] [] [(15, .func (.func 11) #[] #[.pointer (some ⟨b4, 0, none⟩), .pointer (some ⟨b1, 0, none⟩)]), (14, .bool (decide ((great : Int) > s.great))), (13, .bool (decide ((done : Int) > s.done))), (12, .int .u64 0), (7, .pointer (some ⟨b4, 0, none⟩)), (6, .pointer (some ⟨b1, 0, none⟩)), (2, .bool busy), (3, .bool ready), (5, .int .u64 great)] (by kernel_rfl) rfl ak0 ?_
  refine GoR.done ?_
  refine GoQ.thn ?_
  refine GoC.seq ?_
  refine GoC.block ?_
  refine GoC.seq ?_
  refine GoC.join (T := Unit) (E := fun _ => [(41, .bool ((!busy) || (decide ((done : Int) > s.done)))), (15, .func (.func 11) #[] #[.pointer (some ⟨b4, 0, none⟩), .pointer (some ⟨b1, 0, none⟩)]), (14, .bool (decide ((great : Int) > s.great))), (12, .int .u64 0), (7, .pointer (some ⟨b4, 0, none⟩)), (6, .pointer (some ⟨b1, 0, none⟩)), (2, .bool busy), (3, .bool ready), (5, .int .u64 great)]) (F := fun _ w => St w0 ((Cel b4 #[.int .u64 (min now 4611686018427387904)] 28) :: (Cel b1 #[.pointer (some ⟨b, 0, none⟩)] 24) :: (Cel b #[.int .u64 s.span, .bool s.runs, .int .u64 s.stop, .int .u64 done, .int .u64 great] 39) :: L) w) ?_ ?_
  · skip
    refine GoC.regT [63, 63, 63, 63, 63, 63] [.rd 0, .rd 1, .rd 2, .rd 3, .rd 4, .rd 5] (by kernel_rfl) (by kernel_rfl) ?_
    refine GoR.phase [(0, .gen []), (1, .gen []), (2, .gen [])] [] [(44, .bool (!busy)), (43, .bool (!busy)), (42, .bool busy), (15, .func (.func 11) #[] #[.pointer (some ⟨b4, 0, none⟩), .pointer (some ⟨b1, 0, none⟩)]), (14, .bool (decide ((great : Int) > s.great))), (13, .bool (decide ((done : Int) > s.done))), (12, .int .u64 0), (7, .pointer (some ⟨b4, 0, none⟩)), (6, .pointer (some ⟨b1, 0, none⟩)), (2, .bool busy), (3, .bool ready), (5, .int .u64 great)] (by kernel_rfl) rfl ak0 ?_
    rcases Bool.eq_false_or_eq_true (!busy) with h19 | h19
    · skip
      refine GoR.setB 44 true (by decide) (by kernel_rfl) h19 ?_
      have h19n : busy = false := by simpa using h19
      refine GoR.phaseK [(3, .gen []), (4, .gen []), (5, .gen [])] [41, 15, 14, 12, 7, 6, 2, 3, 5] [] [(41, .bool true), (15, .func (.func 11) #[] #[.pointer (some ⟨b4, 0, none⟩), .pointer (some ⟨b1, 0, none⟩)]), (14, .bool (decide ((great : Int) > s.great))), (12, .int .u64 0), (7, .pointer (some ⟨b4, 0, none⟩)), (6, .pointer (some ⟨b1, 0, none⟩)), (2, .bool busy), (3, .bool ready), (5, .int .u64 great)] (by kernel_rfl) rfl ak0 ?_
      refine GoR.done ?_
      refine GoQ.pick [41, 15, 14, 12, 7, 6, 2, 3, 5] (S' := [(41, .bool true), (15, .func (.func 11) #[] #[.pointer (some ⟨b4, 0, none⟩), .pointer (some ⟨b1, 0, none⟩)]), (14, .bool (decide ((great : Int) > s.great))), (12, .int .u64 0), (7, .pointer (some ⟨b4, 0, none⟩)), (6, .pointer (some ⟨b1, 0, none⟩)), (2, .bool busy), (3, .bool ready), (5, .int .u64 great)]) (by kernel_rfl) ?_
      exact GoQ.meet1 () (by first | rfl | (simp only [h19, Bool.true_or, Bool.false_or, Bool.true_and, Bool.false_and, Bool.or_true, Bool.or_false, Bool.and_true, Bool.and_false]; done) | (simp [h19]; done)) hs18
    · skip
      refine GoR.setB 44 false (by decide) (by kernel_rfl) h19 ?_
      have h19n : busy = true := by simpa using h19
      refine GoR.phaseK [(3, .gen []), (4, .gen []), (5, .gen [])] [41, 15, 14, 12, 7, 6, 2, 3, 5] [] [(41, .bool (decide ((done : Int) > s.done))), (15, .func (.func 11) #[] #[.pointer (some ⟨b4, 0, none⟩), .pointer (some ⟨b1, 0, none⟩)]), (14, .bool (decide ((great : Int) > s.great))), (12, .int .u64 0), (7, .pointer (some ⟨b4, 0, none⟩)), (6, .pointer (some ⟨b1, 0, none⟩)), (2, .bool busy), (3, .bool ready), (5, .int .u64 great)] (by kernel_rfl) rfl ak0 ?_
      refine GoR.done ?_
      refine GoQ.pick [41, 15, 14, 12, 7, 6, 2, 3, 5] (S' := [(41, .bool (decide ((done : Int) > s.done))), (15, .func (.func 11) #[] #[.pointer (some ⟨b4, 0, none⟩), .pointer (some ⟨b1, 0, none⟩)]), (14, .bool (decide ((great : Int) > s.great))), (12, .int .u64 0), (7, .pointer (some ⟨b4, 0, none⟩)), (6, .pointer (some ⟨b1, 0, none⟩)), (2, .bool busy), (3, .bool ready), (5, .int .u64 great)]) (by kernel_rfl) ?_
      exact GoQ.meet1 () (by first | rfl | (simp only [h19, Bool.true_or, Bool.false_or, Bool.true_and, Bool.false_and, Bool.or_true, Bool.or_false, Bool.and_true, Bool.and_false]; done) | (simp [h19]; done)) hs18
  intro _ w20 hs21
  refine GoQ.thn ?_
  refine GoC.cond (t := (!busy) || (decide ((done : Int) > s.done))) (by kernel_rfl) (fun h22 => ?_) (fun h22 => ?_)
  · skip
    refine GoC.seq ?_
    refine GoC.regD [0, 0, 1, 5, 13, 31, 63, 127] [.rd 0, .rd 1, .rd 2, .rd 3, .ef 4, .rd 5, .rd 6, .ef 7] (by kernel_rfl) (by kernel_rfl) noPan_body (by kernel_rfl) hs21 ?_
    intro w23 hs24 hw25
    refine GoR.phase [(0, .gen [.pointer (some ⟨b, 0, none⟩)]), (1, .gen [.pointer (some ⟨b, 0, none⟩)]), (2, .gen []), (3, .gen [])] [(0, [.cell ⟨b1, 0, none⟩ (.pointer (some ⟨b, 0, none⟩))]), (1, [.cell ⟨b1, 0, none⟩ (.pointer (some ⟨b, 0, none⟩))])] [(50, .pointer (some ⟨b, 0, none⟩)), (49, .pointer (some ⟨b, 0, none⟩)), (48, .pointer (some ⟨b, 0, none⟩)), (47, .pointer (some ⟨b, 0, none⟩)), (41, .bool ((!busy) || (decide ((done : Int) > s.done)))), (15, .func (.func 11) #[] #[.pointer (some ⟨b4, 0, none⟩), .pointer (some ⟨b1, 0, none⟩)]), (14, .bool (decide ((great : Int) > s.great))), (12, .int .u64 0), (7, .pointer (some ⟨b4, 0, none⟩)), (6, .pointer (some ⟨b1, 0, none⟩)), (2, .bool busy), (3, .bool ready), (5, .int .u64 great)] (by kernel_rfl) rfl (ak (okc (hs24.cell 1 rfl (by kernel_rfl)) ok0) (ak (okc (hs24.cell 1 rfl (by kernel_rfl)) ok0) ak0)) ?_
    refine GoR.store rfl rfl (by kernel_rfl) (b := b) (off := 0) (v := .int .u64 16) (by kernel_rfl) (by kernel_rfl) (ti := Try.t28) (by kernel_rfl) hs24 2 rfl (by kernel_rfl) (by kernel_rfl) (Nat.le_of_ble_eq_true (by kernel_rfl)) (cs' := #[.int .u64 16, .bool s.runs, .int .u64 s.stop, .int .u64 done, .int .u64 great]) (L' := (Cel b4 #[.int .u64 (min now 4611686018427387904)] 28) :: (Cel b1 #[.pointer (some ⟨b, 0, none⟩)] 24) :: (Cel b #[.int .u64 16, .bool s.runs, .int .u64 s.stop, .int .u64 done, .int .u64 great] 39) :: L) (by kernel_rfl) rfl ?_
    intro w26 hs27
    refine ⟨(opl (n := [.cell ⟨b1, 0, none⟩ (.pointer (some ⟨b, 0, none⟩))]) (by kernel_rfl) (okc (hs27.cell 1 rfl (by kernel_rfl)) ok0)), ?_⟩
    refine GoR.phase [(5, .gen []), (6, .gen [])] [] [(52, .pointer (some ⟨b, 1, none⟩)), (51, .pointer (some ⟨b, 0, none⟩)), (50, .pointer (some ⟨b, 0, none⟩)), (49, .pointer (some ⟨b, 0, none⟩)), (48, .pointer (some ⟨b, 0, none⟩)), (47, .pointer (some ⟨b, 0, none⟩)), (41, .bool ((!busy) || (decide ((done : Int) > s.done)))), (15, .func (.func 11) #[] #[.pointer (some ⟨b4, 0, none⟩), .pointer (some ⟨b1, 0, none⟩)]), (14, .bool (decide ((great : Int) > s.great))), (12, .int .u64 0), (7, .pointer (some ⟨b4, 0, none⟩)), (6, .pointer (some ⟨b1, 0, none⟩)), (2, .bool busy), (3, .bool ready), (5, .int .u64 great)] (by kernel_rfl) rfl ak0 ?_
    refine GoR.store rfl rfl (by kernel_rfl) (b := b) (off := 1) (v := .bool false) (by kernel_rfl) (by kernel_rfl) (ti := Try.t4) (by kernel_rfl) hs27 2 rfl (by kernel_rfl) (by kernel_rfl) (Nat.le_of_ble_eq_true (by kernel_rfl)) (cs' := #[.int .u64 16, .bool false, .int .u64 s.stop, .int .u64 done, .int .u64 great]) (L' := (Cel b4 #[.int .u64 (min now 4611686018427387904)] 28) :: (Cel b1 #[.pointer (some ⟨b, 0, none⟩)] 24) :: (Cel b #[.int .u64 16, .bool false, .int .u64 s.stop, .int .u64 done, .int .u64 great] 39) :: L) (by kernel_rfl) rfl ?_
    intro w28 hs29
    refine ⟨(opn (by kernel_rfl)), ?_⟩
    refine GoR.done ?_
    refine GoQ.thn ?_
    refine GoC.seq ?_
    refine GoC.regT [1] [.rd 0] (by kernel_rfl) (by kernel_rfl) ?_
    refine GoR.phaseK [(0, .gen [])] [53, 15, 12] [] [(53, .bool busy), (15, .func (.func 11) #[] #[.pointer (some ⟨b4, 0, none⟩), .pointer (some ⟨b1, 0, none⟩)]), (12, .int .u64 0)] (by kernel_rfl) rfl ak0 ?_
    refine GoR.done ?_
    refine GoQ.thn ?_
    refine GoC.cond (t := busy) (by kernel_rfl) (fun h30 => ?_) (fun h30 => ?_)
    · skip
      refine GoC.regT [3, 3] [.rd 0, .ef 1] (by kernel_rfl) (by kernel_rfl) ?_
      refine GoR.phase [(0, .gen [])] [] [(54, .func (.func 11) #[] #[.pointer (some ⟨b4, 0, none⟩), .pointer (some ⟨b1, 0, none⟩)]), (53, .bool busy), (15, .func (.func 11) #[] #[.pointer (some ⟨b4, 0, none⟩), .pointer (some ⟨b1, 0, none⟩)]), (12, .int .u64 0)] (by kernel_rfl) rfl ak0 ?_
      refine GoR.call rfl rfl (by kernel_rfl) (f := 11) (args := #[.pointer (some ⟨b4, 0, none⟩), .pointer (some ⟨b1, 0, none⟩)]) (by kernel_rfl) Try.call11 (run_spec _ _ _ _ _ _ (by omega) (by omega) (by omega) (by omega) hs29) ?_
      rintro v32 w33 ⟨rfl, hs31⟩
      refine ⟨(opn (by kernel_rfl)), ?_⟩
      refine GoR.done ?_
      refine GoQ.blkN ?_
      refine GoQ.thn ?_
      refine GoC.seq ?_
      refine GoC.regT [1] [.rd 0] (by kernel_rfl) (by kernel_rfl) ?_
      refine GoR.phaseK [(0, .gen [])] [12] [] [(12, .int .u64 0)] (by kernel_rfl) rfl ak0 ?_
      refine GoR.done ?_
      refine GoQ.thn ?_
      refine GoC.ret ?_
      refine GoQ.done (.inl rfl) (v := .int .u64 0) (fun a hf => results1 rfl (by kernel_rfl) a hf) ?_
      generalize hr : look s now busy ready done great = r
      unfold look at hr
      (try simp only [h22, if_true, if_false, Bool.false_eq_true, Bool.true_eq_false, eq_self, Bool.not_true, Bool.not_false, reduceIte] at hr)
      (try simp only [h30, if_true, if_false, Bool.false_eq_true, Bool.true_eq_false, eq_self, Bool.not_true, Bool.not_false, reduceIte] at hr)
      subst hr
      exact ⟨rfl, hs31.drop 2⟩
    · skip
      refine GoC.skip ?_
      refine GoQ.blkN ?_
      refine GoQ.thn ?_
      refine GoC.seq ?_
      refine GoC.regT [1] [.rd 0] (by kernel_rfl) (by kernel_rfl) ?_
      refine GoR.phaseK [(0, .gen [])] [12] [] [(12, .int .u64 0)] (by kernel_rfl) rfl ak0 ?_
      refine GoR.done ?_
      refine GoQ.thn ?_
      refine GoC.ret ?_
      refine GoQ.done (.inl rfl) (v := .int .u64 0) (fun a hf => results1 rfl (by kernel_rfl) a hf) ?_
      generalize hr : look s now busy ready done great = r
      unfold look at hr
      (try simp only [h22, if_true, if_false, Bool.false_eq_true, Bool.true_eq_false, eq_self, Bool.not_true, Bool.not_false, reduceIte] at hr)
      (try simp only [h30, if_true, if_false, Bool.false_eq_true, Bool.true_eq_false, eq_self, Bool.not_true, Bool.not_false, reduceIte] at hr)
      subst hr
      exact ⟨rfl, hs29.drop 2⟩
  · skip
    have h22a : (!busy) = false := (Bool.or_eq_false_iff.1 h22).1
    have h22an : busy = true := by simpa using h22a
    have h22b : (decide ((done : Int) > s.done)) = false := (Bool.or_eq_false_iff.1 h22).2
    have h22b' : ¬ ((done : Int) > s.done) := of_decide_eq_false h22b
    refine GoC.seq ?_
    refine GoC.regT [7, 7, 7] [.rd 0, .rd 1, .rd 2] (by kernel_rfl) (by kernel_rfl) ?_
    refine GoR.phaseK [(0, .gen []), (1, .gen []), (2, .gen [])] [56, 15, 14, 12, 7, 6, 5] [] [(56, .bool (!ready)), (15, .func (.func 11) #[] #[.pointer (some ⟨b4, 0, none⟩), .pointer (some ⟨b1, 0, none⟩)]), (14, .bool (decide ((great : Int) > s.great))), (12, .int .u64 0), (7, .pointer (some ⟨b4, 0, none⟩)), (6, .pointer (some ⟨b1, 0, none⟩)), (5, .int .u64 great)] (by kernel_rfl) rfl ak0 ?_
    refine GoR.done ?_
    refine GoQ.thn ?_
    refine GoC.cond (t := !ready) (by kernel_rfl) (fun h34 => ?_) (fun h34 => ?_)
    · skip
      have h34n : ready = false := by simpa using h34
      refine GoC.regT [15, 15, 15, 15] [.rd 0, .rd 1, .rd 2, .ef 3] (by kernel_rfl) (by kernel_rfl) ?_
      refine GoR.phase [(0, .gen [.pointer (some ⟨b, 0, none⟩)]), (1, .gen []), (2, .gen [])] [(0, [.cell ⟨b1, 0, none⟩ (.pointer (some ⟨b, 0, none⟩))])] [(61, .pointer (some ⟨b, 1, none⟩)), (60, .pointer (some ⟨b, 0, none⟩)), (59, .pointer (some ⟨b, 0, none⟩)), (56, .bool (!ready)), (15, .func (.func 11) #[] #[.pointer (some ⟨b4, 0, none⟩), .pointer (some ⟨b1, 0, none⟩)]), (14, .bool (decide ((great : Int) > s.great))), (12, .int .u64 0), (7, .pointer (some ⟨b4, 0, none⟩)), (6, .pointer (some ⟨b1, 0, none⟩)), (5, .int .u64 great)] (by kernel_rfl) rfl (ak (okc (hs21.cell 1 rfl (by kernel_rfl)) ok0) ak0) ?_
      refine GoR.store rfl rfl (by kernel_rfl) (b := b) (off := 1) (v := .bool false) (by kernel_rfl) (by kernel_rfl) (ti := Try.t4) (by kernel_rfl) hs21 2 rfl (by kernel_rfl) (by kernel_rfl) (Nat.le_of_ble_eq_true (by kernel_rfl)) (cs' := #[.int .u64 s.span, .bool false, .int .u64 s.stop, .int .u64 done, .int .u64 great]) (L' := (Cel b4 #[.int .u64 (min now 4611686018427387904)] 28) :: (Cel b1 #[.pointer (some ⟨b, 0, none⟩)] 24) :: (Cel b #[.int .u64 s.span, .bool false, .int .u64 s.stop, .int .u64 done, .int .u64 great] 39) :: L) (by kernel_rfl) rfl ?_
      intro w35 hs36
      refine ⟨(opn (by kernel_rfl)), ?_⟩
      refine GoR.done ?_
      refine GoQ.blkN ?_
      refine GoQ.thn ?_
      refine GoC.seq ?_
      refine GoC.regT [1] [.rd 0] (by kernel_rfl) (by kernel_rfl) ?_
      refine GoR.phaseK [(0, .gen [])] [12] [] [(12, .int .u64 0)] (by kernel_rfl) rfl ak0 ?_
      refine GoR.done ?_
      refine GoQ.thn ?_
      refine GoC.ret ?_
      refine GoQ.done (.inl rfl) (v := .int .u64 0) (fun a hf => results1 rfl (by kernel_rfl) a hf) ?_
      generalize hr : look s now busy ready done great = r
      unfold look at hr
      (try simp only [h22, if_true, if_false, Bool.false_eq_true, Bool.true_eq_false, eq_self, Bool.not_true, Bool.not_false, reduceIte] at hr)
      (try simp only [h34n, h34, if_true, if_false, Bool.false_eq_true, Bool.true_eq_false, eq_self, Bool.not_true, Bool.not_false, reduceIte] at hr)
      subst hr
      exact ⟨rfl, hs36.drop 2⟩
    · skip
      have h34n : ready = true := by simpa using h34
      refine GoC.seq ?_
      refine GoC.join (T := Unit) (E := fun _ => [(62, .bool ((decide ((great : Int) > s.great)) || (!s.runs))), (15, .func (.func 11) #[] #[.pointer (some ⟨b4, 0, none⟩), .pointer (some ⟨b1, 0, none⟩)]), (12, .int .u64 0), (7, .pointer (some ⟨b4, 0, none⟩)), (6, .pointer (some ⟨b1, 0, none⟩)), (5, .int .u64 great)]) (F := fun _ w => St w0 ((Cel b4 #[.int .u64 (min now 4611686018427387904)] 28) :: (Cel b1 #[.pointer (some ⟨b, 0, none⟩)] 24) :: (Cel b #[.int .u64 s.span, .bool s.runs, .int .u64 s.stop, .int .u64 done, .int .u64 great] 39) :: L) w) ?_ ?_
      · skip
        refine GoC.regT [511, 511, 511, 511, 511, 511, 511, 511, 511] [.rd 0, .rd 1, .rd 2, .rd 3, .rd 4, .rd 5, .rd 6, .rd 7, .rd 8] (by kernel_rfl) (by kernel_rfl) ?_
        refine GoR.phase [(0, .gen []), (1, .gen [])] [] [(64, .bool (decide ((great : Int) > s.great))), (63, .bool (decide ((great : Int) > s.great))), (56, .bool (!ready)), (15, .func (.func 11) #[] #[.pointer (some ⟨b4, 0, none⟩), .pointer (some ⟨b1, 0, none⟩)]), (14, .bool (decide ((great : Int) > s.great))), (12, .int .u64 0), (7, .pointer (some ⟨b4, 0, none⟩)), (6, .pointer (some ⟨b1, 0, none⟩)), (5, .int .u64 great)] (by kernel_rfl) rfl ak0 ?_
        rcases Bool.eq_false_or_eq_true (decide ((great : Int) > s.great)) with h37 | h37
        · skip
          refine GoR.setB 64 true (by decide) (by kernel_rfl) h37 ?_
          have h37' : (great : Int) > s.great := of_decide_eq_true h37
          refine GoR.phaseK [(2, .gen []), (3, .gen []), (4, .gen []), (5, .gen []), (6, .gen []), (7, .gen []), (8, .gen [])] [62, 15, 12, 7, 6, 5] [] [(62, .bool true), (15, .func (.func 11) #[] #[.pointer (some ⟨b4, 0, none⟩), .pointer (some ⟨b1, 0, none⟩)]), (12, .int .u64 0), (7, .pointer (some ⟨b4, 0, none⟩)), (6, .pointer (some ⟨b1, 0, none⟩)), (5, .int .u64 great)] (by kernel_rfl) rfl ak0 ?_
          refine GoR.done ?_
          refine GoQ.pick [62, 15, 12, 7, 6, 5] (S' := [(62, .bool true), (15, .func (.func 11) #[] #[.pointer (some ⟨b4, 0, none⟩), .pointer (some ⟨b1, 0, none⟩)]), (12, .int .u64 0), (7, .pointer (some ⟨b4, 0, none⟩)), (6, .pointer (some ⟨b1, 0, none⟩)), (5, .int .u64 great)]) (by kernel_rfl) ?_
          exact GoQ.meet1 () (by first | rfl | (simp only [h37, Bool.true_or, Bool.false_or, Bool.true_and, Bool.false_and, Bool.or_true, Bool.or_false, Bool.and_true, Bool.and_false]; done) | (simp [h37]; done)) hs21
        · skip
          refine GoR.setB 64 false (by decide) (by kernel_rfl) h37 ?_
          have h37' : ¬ ((great : Int) > s.great) := of_decide_eq_false h37
          refine GoR.phaseK [(2, .gen [.pointer (some ⟨b, 0, none⟩)]), (3, .gen []), (4, .gen []), (5, .gen [.bool s.runs]), (6, .gen []), (7, .gen []), (8, .gen [])] [62, 15, 12, 7, 6, 5] [(2, [.cell ⟨b1, 0, none⟩ (.pointer (some ⟨b, 0, none⟩))]), (5, [.cell ⟨b, 1, none⟩ (.bool s.runs)])] [(62, .bool (!s.runs)), (15, .func (.func 11) #[] #[.pointer (some ⟨b4, 0, none⟩), .pointer (some ⟨b1, 0, none⟩)]), (12, .int .u64 0), (7, .pointer (some ⟨b4, 0, none⟩)), (6, .pointer (some ⟨b1, 0, none⟩)), (5, .int .u64 great)] (by kernel_rfl) rfl (ak (okc (hs21.cell 1 rfl (by kernel_rfl)) ok0) (ak (okc (hs21.cell 2 rfl (by kernel_rfl)) ok0) ak0)) ?_
          refine GoR.done ?_
          refine GoQ.pick [62, 15, 12, 7, 6, 5] (S' := [(62, .bool (!s.runs)), (15, .func (.func 11) #[] #[.pointer (some ⟨b4, 0, none⟩), .pointer (some ⟨b1, 0, none⟩)]), (12, .int .u64 0), (7, .pointer (some ⟨b4, 0, none⟩)), (6, .pointer (some ⟨b1, 0, none⟩)), (5, .int .u64 great)]) (by kernel_rfl) ?_
          exact GoQ.meet1 () (by first | rfl | (simp only [h37, Bool.true_or, Bool.false_or, Bool.true_and, Bool.false_and, Bool.or_true, Bool.or_false, Bool.and_true, Bool.and_false]; done) | (simp [h37]; done)) hs21
      intro _ w38 hs39
      refine GoQ.thn ?_
      refine GoC.cond (t := (decide ((great : Int) > s.great)) || (!s.runs)) (by kernel_rfl) (fun h40 => ?_) (fun h40 => ?_)
      · skip
        refine GoC.regT [3, 3] [.rd 0, .ef 1] (by kernel_rfl) (by kernel_rfl) ?_
        refine GoR.phase [(0, .gen [])] [] [(71, .func (.func 11) #[] #[.pointer (some ⟨b4, 0, none⟩), .pointer (some ⟨b1, 0, none⟩)]), (62, .bool ((decide ((great : Int) > s.great)) || (!s.runs))), (15, .func (.func 11) #[] #[.pointer (some ⟨b4, 0, none⟩), .pointer (some ⟨b1, 0, none⟩)]), (12, .int .u64 0), (7, .pointer (some ⟨b4, 0, none⟩)), (6, .pointer (some ⟨b1, 0, none⟩)), (5, .int .u64 great)] (by kernel_rfl) rfl ak0 ?_
        refine GoR.call rfl rfl (by kernel_rfl) (f := 11) (args := #[.pointer (some ⟨b4, 0, none⟩), .pointer (some ⟨b1, 0, none⟩)]) (by kernel_rfl) Try.call11 (run_spec _ _ _ _ _ _ (by omega) (by omega) (by omega) (by omega) hs39) ?_
        rintro v42 w43 ⟨rfl, hs41⟩
        refine ⟨(opn (by kernel_rfl)), ?_⟩
        refine GoR.done ?_
        refine GoQ.blkN ?_
        refine GoQ.thn ?_
        refine GoC.seq ?_
        refine GoC.regT [1] [.rd 0] (by kernel_rfl) (by kernel_rfl) ?_
        refine GoR.phaseK [(0, .gen [])] [12] [] [(12, .int .u64 0)] (by kernel_rfl) rfl ak0 ?_
        refine GoR.done ?_
        refine GoQ.thn ?_
        refine GoC.ret ?_
        refine GoQ.done (.inl rfl) (v := .int .u64 0) (fun a hf => results1 rfl (by kernel_rfl) a hf) ?_
        generalize hr : look s now busy ready done great = r
        unfold look at hr
        (try simp only [h22, if_true, if_false, Bool.false_eq_true, Bool.true_eq_false, eq_self, Bool.not_true, Bool.not_false, reduceIte] at hr)
        (try simp only [h34n, h34, if_true, if_false, Bool.false_eq_true, Bool.true_eq_false, eq_self, Bool.not_true, Bool.not_false, reduceIte] at hr)
        (try simp only [h40, if_true, if_false, Bool.false_eq_true, Bool.true_eq_false, eq_self, Bool.not_true, Bool.not_false, reduceIte] at hr)
        subst hr
        exact ⟨rfl, hs41.drop 2⟩
      · skip
        have h40a : (decide ((great : Int) > s.great)) = false := (Bool.or_eq_false_iff.1 h40).1
        have h40a' : ¬ ((great : Int) > s.great) := of_decide_eq_false h40a
        have h40b : (!s.runs) = false := (Bool.or_eq_false_iff.1 h40).2
        have h40bn : s.runs = true := by simpa using h40b
        refine GoC.seq ?_
        refine GoC.regD [0, 0, 2, 6, 14, 31, 63] [.rd 0, .rd 1, .rd 2, .rd 3, .rd 4, .rd 5, .rd 6] (by kernel_rfl) (by kernel_rfl) noPan_body (by kernel_rfl) hs39 ?_
        intro w44 hs45 hw46
        refine GoR.phaseK [(0, .gen [.int .u64 (min now 4611686018427387904)]), (1, .gen [.pointer (some ⟨b, 0, none⟩)]), (2, .gen []), (3, .gen []), (4, .gen [.int .u64 s.stop]), (5, .gen []), (6, .gen [])] [73, 15, 12, 6, 5] [(0, [.cell ⟨b4, 0, none⟩ (.int .u64 (min now 4611686018427387904))]), (1, [.cell ⟨b1, 0, none⟩ (.pointer (some ⟨b, 0, none⟩))]), (4, [.cell ⟨b, 2, none⟩ (.int .u64 s.stop)])] [(73, .bool (decide ((min now 4611686018427387904 : Int) ≥ s.stop))), (15, .func (.func 11) #[] #[.pointer (some ⟨b4, 0, none⟩), .pointer (some ⟨b1, 0, none⟩)]), (12, .int .u64 0), (6, .pointer (some ⟨b1, 0, none⟩)), (5, .int .u64 great)] (by kernel_rfl) rfl (ak (okc (hs45.cell 0 rfl (by kernel_rfl)) ok0) (ak (okc (hs45.cell 1 rfl (by kernel_rfl)) ok0) (ak (okc (hs45.cell 2 rfl (by kernel_rfl)) ok0) ak0))) ?_
        refine GoR.done ?_
        refine GoQ.thn ?_
        refine GoC.cond (t := decide ((min now 4611686018427387904 : Int) ≥ s.stop)) (by kernel_rfl) (fun h47 => ?_) (fun h47 => ?_)
        · skip
          have h47' : (min now 4611686018427387904 : Int) ≥ s.stop := of_decide_eq_true h47
          refine GoC.seq ?_
          refine GoC.regD [0, 0, 2, 6, 14, 30, 62, 127, 255, 511] [.rd 0, .rd 1, .rd 2, .rd 3, .rd 4, .rd 5, .rd 6, .rd 7, .rd 8, .ef 9] (by kernel_rfl) (by kernel_rfl) noPan_body (by kernel_rfl) hs45 ?_
          intro w48 hs49 hw50
          refine GoR.phase [(0, .gen [.pointer (some ⟨b, 0, none⟩)]), (1, .gen [.pointer (some ⟨b, 0, none⟩)]), (2, .gen []), (3, .gen []), (4, .gen [.int .u64 s.span]), (5, .as_ (.int .u64 (2 * s.span)) (.gen [])), (6, .as_ (.int .u64 (min (2 * s.span) 1024)) (.gen [])), (7, .gen []), (8, .gen [])] [(0, [.cell ⟨b1, 0, none⟩ (.pointer (some ⟨b, 0, none⟩))]), (1, [.cell ⟨b1, 0, none⟩ (.pointer (some ⟨b, 0, none⟩))]), (4, [.cell ⟨b, 0, none⟩ (.int .u64 s.span)]), (5, [.prop (Value.int .u64 (IntKind.u64.wrap (2 * s.span)) = Value.int .u64 (2 * s.span))]), (6, [.prop (Value.int .u64 (if 1024 < (2 * s.span) then 1024 else (2 * s.span)) = Value.int .u64 (min (2 * s.span) 1024))])] [(88, .pointer (some ⟨b, 0, none⟩)), (87, .pointer (some ⟨b, 0, none⟩)), (86, .int .u64 (min (2 * s.span) 1024)), (85, .int .u64 (2 * s.span)), (84, .int .u64 s.span), (83, .pointer (some ⟨b, 0, none⟩)), (82, .pointer (some ⟨b, 0, none⟩)), (81, .pointer (some ⟨b, 0, none⟩)), (80, .pointer (some ⟨b, 0, none⟩)), (73, .bool (decide ((min now 4611686018427387904 : Int) ≥ s.stop))), (15, .func (.func 11) #[] #[.pointer (some ⟨b4, 0, none⟩), .pointer (some ⟨b1, 0, none⟩)]), (12, .int .u64 0), (6, .pointer (some ⟨b1, 0, none⟩)), (5, .int .u64 great)] (by kernel_rfl) rfl (ak (okc (hs49.cell 1 rfl (by kernel_rfl)) ok0) (ak (okc (hs49.cell 1 rfl (by kernel_rfl)) ok0) (ak (okc (hs49.cell 2 rfl (by kernel_rfl)) ok0) (ak (okp (u64ok (by omega) (by omega)) ok0) (ak (okp minok ok0) ak0))))) ?_
          refine GoR.store rfl rfl (by kernel_rfl) (b := b) (off := 0) (v := .int .u64 (min (2 * s.span) 1024)) (by kernel_rfl) (by kernel_rfl) (ti := Try.t28) (by kernel_rfl) hs49 2 rfl (by kernel_rfl) (by kernel_rfl) (Nat.le_of_ble_eq_true (by kernel_rfl)) (cs' := #[.int .u64 (min (2 * s.span) 1024), .bool s.runs, .int .u64 s.stop, .int .u64 done, .int .u64 great]) (L' := (Cel b4 #[.int .u64 (min now 4611686018427387904)] 28) :: (Cel b1 #[.pointer (some ⟨b, 0, none⟩)] 24) :: (Cel b #[.int .u64 (min (2 * s.span) 1024), .bool s.runs, .int .u64 s.stop, .int .u64 done, .int .u64 great] 39) :: L) (by kernel_rfl) rfl ?_
          intro w51 hs52
          refine ⟨(opn (by kernel_rfl)), ?_⟩
          refine GoR.done ?_
          refine GoQ.thn ?_
          refine GoC.seq ?_
          refine GoC.regT [3, 3] [.rd 0, .ef 1] (by kernel_rfl) (by kernel_rfl) ?_
          refine GoR.phase [(0, .gen [])] [] [(89, .func (.func 11) #[] #[.pointer (some ⟨b4, 0, none⟩), .pointer (some ⟨b1, 0, none⟩)]), (88, .pointer (some ⟨b, 0, none⟩)), (87, .pointer (some ⟨b, 0, none⟩)), (86, .int .u64 (min (2 * s.span) 1024)), (85, .int .u64 (2 * s.span)), (84, .int .u64 s.span), (83, .pointer (some ⟨b, 0, none⟩)), (82, .pointer (some ⟨b, 0, none⟩)), (81, .pointer (some ⟨b, 0, none⟩)), (80, .pointer (some ⟨b, 0, none⟩)), (73, .bool (decide ((min now 4611686018427387904 : Int) ≥ s.stop))), (15, .func (.func 11) #[] #[.pointer (some ⟨b4, 0, none⟩), .pointer (some ⟨b1, 0, none⟩)]), (12, .int .u64 0), (6, .pointer (some ⟨b1, 0, none⟩)), (5, .int .u64 great)] (by kernel_rfl) rfl ak0 ?_
          refine GoR.call rfl rfl (by kernel_rfl) (f := 11) (args := #[.pointer (some ⟨b4, 0, none⟩), .pointer (some ⟨b1, 0, none⟩)]) (by kernel_rfl) Try.call11 (run_spec _ _ _ _ _ _ (by omega) (by omega) (by omega) (by omega) hs52) ?_
          rintro v54 w55 ⟨rfl, hs53⟩
          refine ⟨(opn (by kernel_rfl)), ?_⟩
          refine GoR.done ?_
          refine GoQ.thn ?_
          refine GoC.seq ?_
          refine GoC.regT [7, 7, 7] [.rd 0, .rd 1, .rd 2] (by kernel_rfl) (by kernel_rfl) ?_
          refine GoR.phaseK [(0, .gen []), (1, .gen []), (2, .gen [])] [12] [] [(12, .int .u64 (IntKind.u64.wrap (great + 1)))] (by kernel_rfl) rfl ak0 ?_
          refine GoR.done ?_
          refine GoQ.thn ?_
          refine GoC.ret ?_
          refine GoQ.blkR ?_
          refine GoQ.skipCR ?_
          refine GoQ.done (.inl rfl) (v := .int .u64 (IntKind.u64.wrap (great + 1))) (fun a hf => results1 rfl (by kernel_rfl) a hf) ?_
          generalize hr : look s now busy ready done great = r
          unfold look at hr
          (try simp only [h22, if_true, if_false, Bool.false_eq_true, Bool.true_eq_false, eq_self, Bool.not_true, Bool.not_false, reduceIte] at hr)
          (try simp only [h34n, h34, if_true, if_false, Bool.false_eq_true, Bool.true_eq_false, eq_self, Bool.not_true, Bool.not_false, reduceIte] at hr)
          (try simp only [h40, if_true, if_false, Bool.false_eq_true, Bool.true_eq_false, eq_self, Bool.not_true, Bool.not_false, reduceIte] at hr)
          (try simp only [h47, h47', if_true, if_false, Bool.false_eq_true, Bool.true_eq_false, eq_self, Bool.not_true, Bool.not_false, reduceIte] at hr)
          subst hr
          exact ⟨rfl, hs53.drop 2⟩
        · skip
          have h47' : ¬ ((min now 4611686018427387904 : Int) ≥ s.stop) := of_decide_eq_false h47
          refine GoC.skip ?_
          refine GoQ.blkN ?_
          refine GoQ.thn ?_
          refine GoC.seq ?_
          refine GoC.regT [1] [.rd 0] (by kernel_rfl) (by kernel_rfl) ?_
          refine GoR.phaseK [(0, .gen [])] [12] [] [(12, .int .u64 0)] (by kernel_rfl) rfl ak0 ?_
          refine GoR.done ?_
          refine GoQ.thn ?_
          refine GoC.ret ?_
          refine GoQ.done (.inl rfl) (v := .int .u64 0) (fun a hf => results1 rfl (by kernel_rfl) a hf) ?_
          generalize hr : look s now busy ready done great = r
          unfold look at hr
          (try simp only [h22, if_true, if_false, Bool.false_eq_true, Bool.true_eq_false, eq_self, Bool.not_true, Bool.not_false, reduceIte] at hr)
          (try simp only [h34n, h34, if_true, if_false, Bool.false_eq_true, Bool.true_eq_false, eq_self, Bool.not_true, Bool.not_false, reduceIte] at hr)
          (try simp only [h40, if_true, if_false, Bool.false_eq_true, Bool.true_eq_false, eq_self, Bool.not_true, Bool.not_false, reduceIte] at hr)
          (try simp only [h47, h47', if_true, if_false, Bool.false_eq_true, Bool.true_eq_false, eq_self, Bool.not_true, Bool.not_false, reduceIte] at hr)
          subst hr
          exact ⟨rfl, hs45.drop 2⟩
theorem new_spec {w0 w : World} {L : List Asn} (hs : St w0 L w) : Calls Try.prog 6 #[] w (Ret fun v w' => ∃ b : Nat, v = .pointer (some ⟨b, 0, none⟩) ∧ St w0 ((Cel b #[.int .u64 16, .bool false, .int .u64 0, .int .u64 0, .int .u64 0] 39) :: L) w') := by
  refine enter (args := []) Try.func6 rfl Try.ntmps6 (Nat.le_of_ble_eq_true (by kernel_rfl)) ?_
  refine GoC.slots (S' := []) rfl ?_
  refine GoC.seq ?_
  refine GoC.regT [1] [.rd 0] (by kernel_rfl) (by kernel_rfl) ?_
  refine GoR.phaseK [(0, .gen [])] [0] [] [(0, .pointer none)] (by kernel_rfl) rfl ak0 ?_
  refine GoR.done ?_
  refine GoQ.thn ?_
  refine GoC.seq ?_
  refine GoC.regT [7, 7, 7] [.rd 0, .ef 1, .rd 2] (by kernel_rfl) (by kernel_rfl) ?_
  refine GoR.phase [(0, .gen [])] [] [(1, .agg #[.int .u64 16, .bool false, .int .u64 0, .int .u64 0, .int .u64 0]), (0, .pointer none)] (by kernel_rfl) rfl ak0 ?_
  refine GoR.box rfl rfl (by kernel_rfl) (v := .agg #[.int .u64 16, .bool false, .int .u64 0, .int .u64 0, .int .u64 0]) (by kernel_rfl) hs (cs := #[.int .u64 16, .bool false, .int .u64 0, .int .u64 0, .int .u64 0]) (by kernel_rfl) ?_
  intro b1 w2 hs3
  refine ⟨(opn (by kernel_rfl)), ?_⟩
  refine GoR.phaseK [(2, .gen [])] [0] [] [(0, .pointer (some ⟨b1, 0, none⟩))] (by kernel_rfl) rfl ak0 ?_
  refine GoR.done ?_
  refine GoQ.thn ?_
  refine GoC.ret ?_
  refine GoQ.done (.inl rfl) (v := .pointer (some ⟨b1, 0, none⟩)) (fun a hf => results1 rfl (by kernel_rfl) a hf) ?_
  exact ⟨_, rfl, hs3⟩
theorem rnew_spec {w0 w : World} {L : List Asn} (hs : St w0 L w) : Calls Try.prog 7 #[] w (Ret fun v w' => ∃ b : Nat, v = .pointer (some ⟨b, 0, none⟩) ∧ St w0 ((Cel b #[.int .u64 16, .bool false, .int .u64 0, .int .u64 0, .int .u64 0] 34) :: L) w') := by
  refine enter (args := []) Try.func7 rfl Try.ntmps7 (Nat.le_of_ble_eq_true (by kernel_rfl)) ?_
  refine GoC.slots (S' := []) rfl ?_
  refine GoC.seq ?_
  refine GoC.regT [1] [.rd 0] (by kernel_rfl) (by kernel_rfl) ?_
  refine GoR.phaseK [(0, .gen [])] [0] [] [(0, .pointer none)] (by kernel_rfl) rfl ak0 ?_
  refine GoR.done ?_
  refine GoQ.thn ?_
  refine GoC.seq ?_
  refine GoC.regT [7, 7, 7] [.rd 0, .ef 1, .rd 2] (by kernel_rfl) (by kernel_rfl) ?_
  refine GoR.phase [(0, .gen [])] [] [(1, .agg #[.int .u64 16, .bool false, .int .u64 0, .int .u64 0, .int .u64 0]), (0, .pointer none)] (by kernel_rfl) rfl ak0 ?_
  refine GoR.box rfl rfl (by kernel_rfl) (v := .agg #[.int .u64 16, .bool false, .int .u64 0, .int .u64 0, .int .u64 0]) (by kernel_rfl) hs (cs := #[.int .u64 16, .bool false, .int .u64 0, .int .u64 0, .int .u64 0]) (by kernel_rfl) ?_
  intro b1 w2 hs3
  refine ⟨(opn (by kernel_rfl)), ?_⟩
  refine GoR.phaseK [(2, .gen [])] [0] [] [(0, .pointer (some ⟨b1, 0, none⟩))] (by kernel_rfl) rfl ak0 ?_
  refine GoR.done ?_
  refine GoQ.thn ?_
  refine GoC.ret ?_
  refine GoQ.done (.inl rfl) (v := .pointer (some ⟨b1, 0, none⟩)) (fun a hf => results1 rfl (by kernel_rfl) a hf) ?_
  exact ⟨_, rfl, hs3⟩
theorem span_spec {w0 w : World} {L : List Asn} {b : Nat} (s : WS) (hs : St w0 ((Cel b (WS.cells s) 39) :: L) w) : Calls Try.prog 10 #[.pointer (some ⟨b, 0, none⟩)] w (Ret fun v w' => v = .int .u64 s.span ∧ St w0 ((Cel b (WS.cells s) 39) :: L) w') := by
  refine enter (args := [.pointer (some ⟨b, 0, none⟩)]) Try.func10 rfl Try.ntmps10 (Nat.le_of_ble_eq_true (by kernel_rfl)) ?_
  refine GoC.slots (S' := [(0, .pointer (some ⟨b, 0, none⟩))]) rfl ?_
  refine GoC.seq ?_
  refine GoC.regT [1] [.rd 0] (by kernel_rfl) (by kernel_rfl) ?_
  refine GoR.phaseK [(0, .gen [])] [2, 0] [] [(2, .int .u64 0), (0, .pointer (some ⟨b, 0, none⟩))] (by kernel_rfl) rfl ak0 ?_
  refine GoR.done ?_
  refine GoQ.thn ?_
  refine GoC.seq ?_
  refine GoC.seq ?_
  refine GoC.regT [3, 3] [.rd 0, .rd 1] (by kernel_rfl) (by kernel_rfl) ?_
  refine GoR.phaseK [(0, .gen []), (1, .gen [])] [4, 2, 0] [] [(4, .bool false), (2, .int .u64 0), (0, .pointer (some ⟨b, 0, none⟩))] (by kernel_rfl) rfl ak0 ?_
  refine GoR.done ?_
  refine GoQ.thn ?_
  refine GoC.condF (by kernel_rfl) ?_
  refine GoC.skip ?_
  refine GoQ.thn ?_
  refine GoC.seq ?_
  refine GoC.regT [31, 31, 31, 31, 31] [.rd 0, .rd 1, .rd 2, .rd 3, .rd 4] (by kernel_rfl) (by kernel_rfl) ?_
  refine GoR.phaseK [(0, .gen []), (1, .gen []), (2, .gen []), (3, .gen [.int .u64 s.span]), (4, .gen [])] [2] [(3, [.cell ⟨b, 0, none⟩ (.int .u64 s.span)])] [(2, .int .u64 s.span)] (by kernel_rfl) rfl (ak (okc (hs.cell 0 rfl (by kernel_rfl)) ok0) ak0) ?_
  refine GoR.done ?_
  refine GoQ.thn ?_
  refine GoC.ret ?_
  refine GoQ.done (.inl rfl) (v := .int .u64 s.span) (fun a hf => results1 rfl (by kernel_rfl) a hf) ?_
  exact ⟨rfl, hs⟩
theorem span_nil {w0 w : World} {L : List Asn} (hs : St w0 L w) : Calls Try.prog 10 #[.pointer none] w (Ret fun v w' => v = .int .u64 0 ∧ St w0 L w') := by
  refine enter (args := [.pointer none]) Try.func10 rfl Try.ntmps10 (Nat.le_of_ble_eq_true (by kernel_rfl)) ?_
  refine GoC.slots (S' := [(0, .pointer none)]) rfl ?_
  refine GoC.seq ?_
  refine GoC.regT [1] [.rd 0] (by kernel_rfl) (by kernel_rfl) ?_
  refine GoR.phaseK [(0, .gen [])] [2, 0] [] [(2, .int .u64 0), (0, .pointer none)] (by kernel_rfl) rfl ak0 ?_
  refine GoR.done ?_
  refine GoQ.thn ?_
  refine GoC.seq ?_
  refine GoC.seq ?_
  refine GoC.regT [3, 3] [.rd 0, .rd 1] (by kernel_rfl) (by kernel_rfl) ?_
  refine GoR.phaseK [(0, .gen []), (1, .gen [])] [4, 2, 0] [] [(4, .bool true), (2, .int .u64 0), (0, .pointer none)] (by kernel_rfl) rfl ak0 ?_
  refine GoR.done ?_
  refine GoQ.thn ?_
  refine GoC.condT (by kernel_rfl) ?_
  refine GoC.seq ?_
  refine GoC.regT [1] [.rd 0] (by kernel_rfl) (by kernel_rfl) ?_
  refine GoR.phaseK [(0, .gen [])] [2, 0] [] [(2, .int .u64 0), (0, .pointer none)] (by kernel_rfl) rfl ak0 ?_
  refine GoR.done ?_
  refine GoQ.thn ?_
  refine GoC.ret ?_
  refine GoQ.skipCR ?_
  refine GoQ.done (.inl rfl) (v := .int .u64 0) (fun a hf => results1 rfl (by kernel_rfl) a hf) ?_
  exact ⟨rfl, hs⟩
theorem look_nil {w0 w : World} {L : List Asn} (now : Int) (busy ready : Bool) (done great : Int) (hs : St w0 L w) : Calls Try.prog 8 #[.pointer none, .int .u64 now, .bool busy, .bool ready, .int .u64 done, .int .u64 great] w (Ret fun v w' => v = .int .u64 0 ∧ St w0 L w') := by
  refine enter (args := [.pointer none, .int .u64 now, .bool busy, .bool ready, .int .u64 done, .int .u64 great]) Try.func8 rfl Try.ntmps8 (Nat.le_of_ble_eq_true (by kernel_rfl)) ?_
  refine GoC.slots (S' := [(0, .pointer none), (1, .int .u64 now), (2, .bool busy), (3, .bool ready), (4, .int .u64 done), (5, .int .u64 great)]) rfl ?_
  refine GoC.seq ?_
  refine GoC.regT [7, 7, 7] [.ef 0, .ef 1, .rd 2] (by kernel_rfl) (by kernel_rfl) ?_
  refine GoR.box rfl rfl (by kernel_rfl) (v := .pointer none) (by kernel_rfl) hs (cs := #[.pointer none]) (by kernel_rfl) ?_
  intro b1 w2 hs3
  refine ⟨(opn (by kernel_rfl)), ?_⟩
  refine GoR.box rfl rfl (by kernel_rfl) (v := .int .u64 now) (by kernel_rfl) hs3 (cs := #[.int .u64 now]) (by kernel_rfl) ?_
  intro b4 w5 hs6
  refine ⟨(opn (by kernel_rfl)), ?_⟩
  refine GoR.phaseK [(2, .gen [])] [12, 7, 6, 2, 3, 4, 5] [] [(12, .int .u64 0), (7, .pointer (some ⟨b4, 0, none⟩)), (6, .pointer (some ⟨b1, 0, none⟩)), (2, .bool busy), (3, .bool ready), (4, .int .u64 done), (5, .int .u64 great)] (by kernel_rfl) rfl ak0 ?_
  refine GoR.done ?_
  refine GoQ.thn ?_
  refine GoC.seq ?_
  refine GoC.seq ?_
  refine GoC.regT [3, 3] [.rd 0, .rd 1] (by kernel_rfl) (by kernel_rfl) ?_
  refine GoR.phaseK [(0, .gen [.pointer none]), (1, .gen [])] [17, 12, 7, 6, 2, 3, 4, 5] [(0, [.cell ⟨b1, 0, none⟩ (.pointer none)])] [(17, .bool true), (12, .int .u64 0), (7, .pointer (some ⟨b4, 0, none⟩)), (6, .pointer (some ⟨b1, 0, none⟩)), (2, .bool busy), (3, .bool ready), (4, .int .u64 done), (5, .int .u64 great)] (by kernel_rfl) rfl (ak (okc (hs6.cell 1 rfl (by kernel_rfl)) ok0) ak0) ?_
  refine GoR.done ?_
  refine GoQ.thn ?_
  refine GoC.condT (by kernel_rfl) ?_
  refine GoC.seq ?_
  refine GoC.regT [1] [.rd 0] (by kernel_rfl) (by kernel_rfl) ?_
  refine GoR.phaseK [(0, .gen [])] [12, 7, 6, 2, 3, 4, 5] [] [(12, .int .u64 0), (7, .pointer (some ⟨b4, 0, none⟩)), (6, .pointer (some ⟨b1, 0, none⟩)), (2, .bool busy), (3, .bool ready), (4, .int .u64 done), (5, .int .u64 great)] (by kernel_rfl) rfl ak0 ?_
  refine GoR.done ?_
  refine GoQ.thn ?_
  refine GoC.ret ?_
  refine GoQ.skipCR ?_
  refine GoQ.done (.inl rfl) (v := .int .u64 0) (fun a hf => results1 rfl (by kernel_rfl) a hf) ?_
  exact ⟨rfl, hs6.drop 2⟩

/-- ratchetref20's look -/
def rlook (s : WS) (now : Int) (busy ready : Bool) (done great : Int) : Int × WS :=
  if (!busy || decide (done > s.done)) = true then (0, ⟨16, busy, min now 4611686018427387904 + 16, done, great⟩)
  else if ready = false then (0, ⟨s.span, false, s.stop, done, great⟩)
  else if (decide (great > s.great) || !s.runs) = true then (0, ⟨s.span, true, min now 4611686018427387904 + s.span, done, great⟩)
  else if min now 4611686018427387904 < s.stop then (0, ⟨s.span, s.runs, s.stop, done, great⟩)
  else (IntKind.u64.wrap (great + 1), ⟨min (2 * s.span) 1024, s.runs, min now 4611686018427387904 + min (2 * s.span) 1024, done, great⟩)
theorem rlook_spec {w0 w : World} {L : List Asn} {b : Nat} (s : WS) (now : Int) (busy ready : Bool) (done great : Int) (h1 : 0 ≤ now) (h3 : 0 ≤ s.span) (h4 : s.span ≤ 1024)
    (hs : St w0 ((Cel b (WS.cells s) 34) :: L) w) : Calls Try.prog 9 #[.pointer (some ⟨b, 0, none⟩), .int .u64 now, .bool busy, .bool ready, .int .u64 done, .int .u64 great] w (Ret fun v w' => v = .int .u64 (rlook s now busy ready done great).1 ∧ St w0 ((Cel b (WS.cells (rlook s now busy ready done great).2) 34) :: L) w') := by
  refine enter (args := [.pointer (some ⟨b, 0, none⟩), .int .u64 now, .bool busy, .bool ready, .int .u64 done, .int .u64 great]) Try.func9 rfl Try.ntmps9 (Nat.le_of_ble_eq_true (by kernel_rfl)) ?_
  refine GoC.slots (S' := [(0, .pointer (some ⟨b, 0, none⟩)), (1, .int .u64 now), (2, .bool busy), (3, .bool ready), (4, .int .u64 done), (5, .int .u64 great)]) rfl ?_
  refine GoC.seq ?_
  refine GoC.regT [1] [.rd 0] (by kernel_rfl) (by kernel_rfl) ?_
  refine GoR.phaseK [(0, .gen [])] [12, 0, 1, 2, 3, 4, 5] [] [(12, .int .u64 0), (0, .pointer (some ⟨b, 0, none⟩)), (1, .int .u64 now), (2, .bool busy), (3, .bool ready), (4, .int .u64 done), (5, .int .u64 great)] (by kernel_rfl) rfl ak0 ?_
  refine GoR.done ?_
  refine GoQ.thn ?_
  refine GoC.seq ?_
  refine GoC.regT [7, 7, 7] [.rd 0, .rd 1, .rd 2] (by kernel_rfl) (by kernel_rfl) ?_
  refine GoR.phaseK [(0, .gen []), (1, .as_ (.int .u64 (min now 4611686018427387904)) (.gen [])), (2, .gen [])] [1, 12, 0, 2, 3, 4, 5] [(1, [.prop (Value.int .u64 (if 4611686018427387904 < now then 4611686018427387904 else now) = Value.int .u64 (min now 4611686018427387904))])] [(1, .int .u64 (min now 4611686018427387904)), (12, .int .u64 0), (0, .pointer (some ⟨b, 0, none⟩)), (2, .bool busy), (3, .bool ready), (4, .int .u64 done), (5, .int .u64 great)] (by kernel_rfl) rfl (ak (okp minok ok0) ak0) ?_
  refine GoR.done ?_
  refine GoQ.thn ?_
  refine GoC.seq ?_
  refine GoC.regT [127, 127, 127, 127, 127, 127, 127] [.rd 0, .rd 1, .rd 2, .rd 3, .rd 4, .rd 5, .rd 6] (by kernel_rfl) (by kernel_rfl) ?_
  refine GoR.phaseK [(0, .gen []), (1, .gen []), (2, .gen []), (3, .gen []), (4, .gen [.int .u64 s.done]), (5, .gen []), (6, .gen [])] [13, 1, 12, 0, 2, 3, 4, 5] [(4, [.cell ⟨b, 3, none⟩ (.int .u64 s.done)])] [(13, .bool (decide ((done : Int) > s.done))), (1, .int .u64 (min now 4611686018427387904)), (12, .int .u64 0), (0, .pointer (some ⟨b, 0, none⟩)), (2, .bool busy), (3, .bool ready), (4, .int .u64 done), (5, .int .u64 great)] (by kernel_rfl) rfl (ak (okc (hs.cell 0 rfl (by kernel_rfl)) ok0) ak0) ?_
  refine GoR.done ?_
  refine GoQ.thn ?_
  refine GoC.seq ?_
  refine GoC.regT [127, 127, 127, 127, 127, 127, 127] [.rd 0, .rd 1, .rd 2, .rd 3, .rd 4, .rd 5, .rd 6] (by kernel_rfl) (by kernel_rfl) ?_
  refine GoR.phaseK [(0, .gen []), (1, .gen []), (2, .gen []), (3, .gen []), (4, .gen [.int .u64 s.great]), (5, .gen []), (6, .gen [])] [14, 13, 1, 12, 0, 2, 3, 4, 5] [(4, [.cell ⟨b, 4, none⟩ (.int .u64 s.great)])] [(14, .bool (decide ((great : Int) > s.great))), (13, .bool (decide ((done : Int) > s.done))), (1, .int .u64 (min now 4611686018427387904)), (12, .int .u64 0), (0, .pointer (some ⟨b, 0, none⟩)), (2, .bool busy), (3, .bool ready), (4, .int .u64 done), (5, .int .u64 great)] (by kernel_rfl) rfl (ak (okc (hs.cell 0 rfl (by kernel_rfl)) ok0) ak0) ?_
  refine GoR.done ?_
  refine GoQ.thn ?_
  refine GoC.seq ?_
  refine GoC.regT [31, 31, 31, 31, 31] [.rd 0, .rd 1, .rd 2, .rd 3, .ef 4] (by kernel_rfl) (by kernel_rfl) ?_
  refine GoR.phase [(0, .gen []), (1, .gen []), (2, .gen []), (3, .gen [])] [] [(32, .pointer (some ⟨b, 3, none⟩)), (31, .pointer (some ⟨b, 0, none⟩)), (30, .int .u64 done), (29, .pointer (some ⟨b, 0, none⟩)), (14, .bool (decide ((great : Int) > s.great))), (13, .bool (decide ((done : Int) > s.done))), (1, .int .u64 (min now 4611686018427387904)), (12, .int .u64 0), (0, .pointer (some ⟨b, 0, none⟩)), (2, .bool busy), (3, .bool ready), (4, .int .u64 done), (5, .int .u64 great)] (by kernel_rfl) rfl ak0 ?_
  refine GoR.store rfl rfl (by kernel_rfl) (b := b) (off := 3) (v := .int .u64 done) (by kernel_rfl) (by kernel_rfl) (ti := Try.t28) (by kernel_rfl) hs 0 rfl (by kernel_rfl) (by kernel_rfl) (Nat.le_of_ble_eq_true (by kernel_rfl)) (cs' := #[.int .u64 s.span, .bool s.runs, .int .u64 s.stop, .int .u64 done, .int .u64 s.great]) (L' := (Cel b #[.int .u64 s.span, .bool s.runs, .int .u64 s.stop, .int .u64 done, .int .u64 s.great] 34) :: L) (by kernel_rfl) rfl ?_
  intro w1 hs2
  refine ⟨(opn (by kernel_rfl)), ?_⟩
  refine GoR.done ?_
  refine GoQ.thn ?_
  refine GoC.seq ?_
  refine GoC.regT [31, 31, 31, 31, 31] [.rd 0, .rd 1, .rd 2, .rd 3, .ef 4] (by kernel_rfl) (by kernel_rfl) ?_
  refine GoR.phase [(0, .gen []), (1, .gen []), (2, .gen []), (3, .gen [])] [] [(36, .pointer (some ⟨b, 4, none⟩)), (35, .pointer (some ⟨b, 0, none⟩)), (34, .int .u64 great), (33, .pointer (some ⟨b, 0, none⟩)), (32, .pointer (some ⟨b, 3, none⟩)), (31, .pointer (some ⟨b, 0, none⟩)), (30, .int .u64 done), (29, .pointer (some ⟨b, 0, none⟩)), (14, .bool (decide ((great : Int) > s.great))), (13, .bool (decide ((done : Int) > s.done))), (1, .int .u64 (min now 4611686018427387904)), (12, .int .u64 0), (0, .pointer (some ⟨b, 0, none⟩)), (2, .bool busy), (3, .bool ready), (4, .int .u64 done), (5, .int .u64 great)] (by kernel_rfl) rfl ak0 ?_
  refine GoR.store rfl rfl (by kernel_rfl) (b := b) (off := 4) (v := .int .u64 great) (by kernel_rfl) (by kernel_rfl) (ti := Try.t28) (by kernel_rfl) hs2 0 rfl (by kernel_rfl) (by kernel_rfl) (Nat.le_of_ble_eq_true (by kernel_rfl)) (cs' := #[.int .u64 s.span, .bool s.runs, .int .u64 s.stop, .int .u64 done, .int .u64 great]) (L' := (Cel b #[.int .u64 s.span, .bool s.runs, .int .u64 s.stop, .int .u64 done, .int .u64 great] 34) :: L) (by kernel_rfl) rfl ?_
  intro w3 hs4
  refine ⟨(opn (by kernel_rfl)), ?_⟩
  refine GoR.done ?_
  refine GoQ.thn ?_
  refine GoC.seq ?_
  refine GoC.seq ?_
  refine GoC.join (T := Unit) (E := fun _ => [(41, .bool ((!busy) || (decide ((done : Int) > s.done)))), (14, .bool (decide ((great : Int) > s.great))), (1, .int .u64 (min now 4611686018427387904)), (12, .int .u64 0), (0, .pointer (some ⟨b, 0, none⟩)), (2, .bool busy), (3, .bool ready), (5, .int .u64 great)]) (F := fun _ w => St w0 ((Cel b #[.int .u64 s.span, .bool s.runs, .int .u64 s.stop, .int .u64 done, .int .u64 great] 34) :: L) w) ?_ ?_
  · skip
    refine GoC.regT [31, 31, 31, 31, 31] [.rd 0, .rd 1, .rd 2, .rd 3, .rd 4] (by kernel_rfl) (by kernel_rfl) ?_
    refine GoR.phase [(0, .gen []), (1, .gen []), (2, .gen [])] [] [(39, .bool (!busy)), (38, .bool (!busy)), (37, .bool busy), (36, .pointer (some ⟨b, 4, none⟩)), (35, .pointer (some ⟨b, 0, none⟩)), (34, .int .u64 great), (33, .pointer (some ⟨b, 0, none⟩)), (32, .pointer (some ⟨b, 3, none⟩)), (31, .pointer (some ⟨b, 0, none⟩)), (30, .int .u64 done), (29, .pointer (some ⟨b, 0, none⟩)), (14, .bool (decide ((great : Int) > s.great))), (13, .bool (decide ((done : Int) > s.done))), (1, .int .u64 (min now 4611686018427387904)), (12, .int .u64 0), (0, .pointer (some ⟨b, 0, none⟩)), (2, .bool busy), (3, .bool ready), (4, .int .u64 done), (5, .int .u64 great)] (by kernel_rfl) rfl ak0 ?_
    rcases Bool.eq_false_or_eq_true (!busy) with h5 | h5
    · skip
      refine GoR.setB 39 true (by decide) (by kernel_rfl) h5 ?_
      have h5n : busy = false := by simpa using h5
      refine GoR.phaseK [(3, .gen []), (4, .gen [])] [41, 14, 1, 12, 0, 2, 3, 5] [] [(41, .bool true), (14, .bool (decide ((great : Int) > s.great))), (1, .int .u64 (min now 4611686018427387904)), (12, .int .u64 0), (0, .pointer (some ⟨b, 0, none⟩)), (2, .bool busy), (3, .bool ready), (5, .int .u64 great)] (by kernel_rfl) rfl ak0 ?_
      refine GoR.done ?_
      refine GoQ.pick [41, 14, 1, 12, 0, 2, 3, 5] (S' := [(41, .bool true), (14, .bool (decide ((great : Int) > s.great))), (1, .int .u64 (min now 4611686018427387904)), (12, .int .u64 0), (0, .pointer (some ⟨b, 0, none⟩)), (2, .bool busy), (3, .bool ready), (5, .int .u64 great)]) (by kernel_rfl) ?_
      exact GoQ.meet1 () (by first | rfl | (simp only [h5, Bool.true_or, Bool.false_or, Bool.true_and, Bool.false_and, Bool.or_true, Bool.or_false, Bool.and_true, Bool.and_false]; done) | (simp [h5]; done)) hs4
    · skip
      refine GoR.setB 39 false (by decide) (by kernel_rfl) h5 ?_
      have h5n : busy = true := by simpa using h5
      refine GoR.phaseK [(3, .gen []), (4, .gen [])] [41, 14, 1, 12, 0, 2, 3, 5] [] [(41, .bool (decide ((done : Int) > s.done))), (14, .bool (decide ((great : Int) > s.great))), (1, .int .u64 (min now 4611686018427387904)), (12, .int .u64 0), (0, .pointer (some ⟨b, 0, none⟩)), (2, .bool busy), (3, .bool ready), (5, .int .u64 great)] (by kernel_rfl) rfl ak0 ?_
      refine GoR.done ?_
      refine GoQ.pick [41, 14, 1, 12, 0, 2, 3, 5] (S' := [(41, .bool (decide ((done : Int) > s.done))), (14, .bool (decide ((great : Int) > s.great))), (1, .int .u64 (min now 4611686018427387904)), (12, .int .u64 0), (0, .pointer (some ⟨b, 0, none⟩)), (2, .bool busy), (3, .bool ready), (5, .int .u64 great)]) (by kernel_rfl) ?_
      exact GoQ.meet1 () (by first | rfl | (simp only [h5, Bool.true_or, Bool.false_or, Bool.true_and, Bool.false_and, Bool.or_true, Bool.or_false, Bool.and_true, Bool.and_false]; done) | (simp [h5]; done)) hs4
  intro _ w6 hs7
  refine GoQ.thn ?_
  refine GoC.cond (t := (!busy) || (decide ((done : Int) > s.done))) (by kernel_rfl) (fun h8 => ?_) (fun h8 => ?_)
  · skip
    refine GoC.seq ?_
    refine GoC.regT [15, 15, 15, 15] [.rd 0, .rd 1, .rd 2, .ef 3] (by kernel_rfl) (by kernel_rfl) ?_
    refine GoR.phase [(0, .gen []), (1, .gen []), (2, .gen [])] [] [(44, .pointer (some ⟨b, 0, none⟩)), (43, .pointer (some ⟨b, 0, none⟩)), (42, .pointer (some ⟨b, 0, none⟩)), (41, .bool ((!busy) || (decide ((done : Int) > s.done)))), (14, .bool (decide ((great : Int) > s.great))), (1, .int .u64 (min now 4611686018427387904)), (12, .int .u64 0), (0, .pointer (some ⟨b, 0, none⟩)), (2, .bool busy), (3, .bool ready), (5, .int .u64 great)] (by kernel_rfl) rfl ak0 ?_
    refine GoR.store rfl rfl (by kernel_rfl) (b := b) (off := 0) (v := .int .u64 16) (by kernel_rfl) (by kernel_rfl) (ti := Try.t28) (by kernel_rfl) hs7 0 rfl (by kernel_rfl) (by kernel_rfl) (Nat.le_of_ble_eq_true (by kernel_rfl)) (cs' := #[.int .u64 16, .bool s.runs, .int .u64 s.stop, .int .u64 done, .int .u64 great]) (L' := (Cel b #[.int .u64 16, .bool s.runs, .int .u64 s.stop, .int .u64 done, .int .u64 great] 34) :: L) (by kernel_rfl) rfl ?_
    intro w9 hs10
    refine ⟨(opn (by kernel_rfl)), ?_⟩
    refine GoR.done ?_
    refine GoQ.thn ?_
    refine GoC.seq ?_
    refine GoC.regT [31, 31, 31, 31, 31] [.rd 0, .rd 1, .rd 2, .rd 3, .ef 4] (by kernel_rfl) (by kernel_rfl) ?_
    refine GoR.phase [(0, .gen []), (1, .gen []), (2, .gen []), (3, .gen [])] [] [(48, .pointer (some ⟨b, 1, none⟩)), (47, .pointer (some ⟨b, 0, none⟩)), (46, .bool busy), (45, .pointer (some ⟨b, 0, none⟩)), (44, .pointer (some ⟨b, 0, none⟩)), (43, .pointer (some ⟨b, 0, none⟩)), (42, .pointer (some ⟨b, 0, none⟩)), (41, .bool ((!busy) || (decide ((done : Int) > s.done)))), (14, .bool (decide ((great : Int) > s.great))), (1, .int .u64 (min now 4611686018427387904)), (12, .int .u64 0), (0, .pointer (some ⟨b, 0, none⟩)), (2, .bool busy), (3, .bool ready), (5, .int .u64 great)] (by kernel_rfl) rfl ak0 ?_
    refine GoR.store rfl rfl (by kernel_rfl) (b := b) (off := 1) (v := .bool busy) (by kernel_rfl) (by kernel_rfl) (ti := Try.t4) (by kernel_rfl) hs10 0 rfl (by kernel_rfl) (by kernel_rfl) (Nat.le_of_ble_eq_true (by kernel_rfl)) (cs' := #[.int .u64 16, .bool busy, .int .u64 s.stop, .int .u64 done, .int .u64 great]) (L' := (Cel b #[.int .u64 16, .bool busy, .int .u64 s.stop, .int .u64 done, .int .u64 great] 34) :: L) (by kernel_rfl) rfl ?_
    intro w11 hs12
    refine ⟨(opn (by kernel_rfl)), ?_⟩
    refine GoR.done ?_
    refine GoQ.thn ?_
    refine GoC.seq ?_
    refine GoC.regT [1023, 1023, 1023, 1023, 1023, 1023, 1023, 1023, 1023, 1023] [.rd 0, .rd 1, .rd 2, .rd 3, .rd 4, .rd 5, .rd 6, .rd 7, .rd 8, .ef 9] (by kernel_rfl) (by kernel_rfl) ?_
    refine GoR.phase [(0, .gen []), (1, .gen []), (2, .gen []), (3, .gen []), (4, .gen []), (5, .gen [.int .u64 16]), (6, .as_ (.int .u64 ((min now 4611686018427387904) + 16)) (.gen [])), (7, .gen []), (8, .gen [])] [(5, [.cell ⟨b, 0, none⟩ (.int .u64 16)]), (6, [.prop (Value.int .u64 (IntKind.u64.wrap ((min now 4611686018427387904) + 16)) = Value.int .u64 ((min now 4611686018427387904) + 16))])] [(57, .pointer (some ⟨b, 2, none⟩)), (56, .pointer (some ⟨b, 0, none⟩)), (55, .int .u64 ((min now 4611686018427387904) + 16)), (54, .int .u64 16), (53, .pointer (some ⟨b, 0, none⟩)), (52, .pointer (some ⟨b, 0, none⟩)), (51, .pointer (some ⟨b, 0, none⟩)), (50, .int .u64 (min now 4611686018427387904)), (49, .pointer (some ⟨b, 0, none⟩)), (48, .pointer (some ⟨b, 1, none⟩)), (47, .pointer (some ⟨b, 0, none⟩)), (46, .bool busy), (45, .pointer (some ⟨b, 0, none⟩)), (44, .pointer (some ⟨b, 0, none⟩)), (43, .pointer (some ⟨b, 0, none⟩)), (42, .pointer (some ⟨b, 0, none⟩)), (41, .bool ((!busy) || (decide ((done : Int) > s.done)))), (14, .bool (decide ((great : Int) > s.great))), (1, .int .u64 (min now 4611686018427387904)), (12, .int .u64 0), (0, .pointer (some ⟨b, 0, none⟩)), (2, .bool busy), (3, .bool ready), (5, .int .u64 great)] (by kernel_rfl) rfl (ak (okc (hs12.cell 0 rfl (by kernel_rfl)) ok0) (ak (okp (u64ok (by omega) (by omega)) ok0) ak0)) ?_
    refine GoR.store rfl rfl (by kernel_rfl) (b := b) (off := 2) (v := .int .u64 ((min now 4611686018427387904) + 16)) (by kernel_rfl) (by kernel_rfl) (ti := Try.t28) (by kernel_rfl) hs12 0 rfl (by kernel_rfl) (by kernel_rfl) (Nat.le_of_ble_eq_true (by kernel_rfl)) (cs' := #[.int .u64 16, .bool busy, .int .u64 ((min now 4611686018427387904) + 16), .int .u64 done, .int .u64 great]) (L' := (Cel b #[.int .u64 16, .bool busy, .int .u64 ((min now 4611686018427387904) + 16), .int .u64 done, .int .u64 great] 34) :: L) (by kernel_rfl) rfl ?_
    intro w13 hs14
    refine ⟨(opn (by kernel_rfl)), ?_⟩
    refine GoR.done ?_
    refine GoQ.thn ?_
    refine GoC.seq ?_
    refine GoC.regT [1] [.rd 0] (by kernel_rfl) (by kernel_rfl) ?_
    refine GoR.phaseK [(0, .gen [])] [12, 14, 1, 0, 3, 5] [] [(12, .int .u64 0), (14, .bool (decide ((great : Int) > s.great))), (1, .int .u64 (min now 4611686018427387904)), (0, .pointer (some ⟨b, 0, none⟩)), (3, .bool ready), (5, .int .u64 great)] (by kernel_rfl) rfl ak0 ?_
    refine GoR.done ?_
    refine GoQ.thn ?_
    refine GoC.ret ?_
    refine GoQ.skipCR ?_
    refine GoQ.done (.inl rfl) (v := .int .u64 0) (fun a hf => results1 rfl (by kernel_rfl) a hf) ?_
    generalize hr : rlook s now busy ready done great = r
    unfold rlook at hr
    (try simp only [h8, if_true, if_false, Bool.false_eq_true, Bool.true_eq_false, eq_self, Bool.not_true, Bool.not_false, reduceIte] at hr)
    subst hr
    exact ⟨rfl, hs14.drop 0⟩
  · skip
    have h8a : (!busy) = false := (Bool.or_eq_false_iff.1 h8).1
    have h8an : busy = true := by simpa using h8a
    have h8b : (decide ((done : Int) > s.done)) = false := (Bool.or_eq_false_iff.1 h8).2
    have h8b' : ¬ ((done : Int) > s.done) := of_decide_eq_false h8b
    refine GoC.skip ?_
    refine GoQ.thn ?_
    refine GoC.seq ?_
    refine GoC.seq ?_
    refine GoC.regT [3, 3] [.rd 0, .rd 1] (by kernel_rfl) (by kernel_rfl) ?_
    refine GoR.phaseK [(0, .gen []), (1, .gen [])] [59, 14, 1, 12, 0, 5] [] [(59, .bool (!ready)), (14, .bool (decide ((great : Int) > s.great))), (1, .int .u64 (min now 4611686018427387904)), (12, .int .u64 0), (0, .pointer (some ⟨b, 0, none⟩)), (5, .int .u64 great)] (by kernel_rfl) rfl ak0 ?_
    refine GoR.done ?_
    refine GoQ.thn ?_
    refine GoC.cond (t := !ready) (by kernel_rfl) (fun h15 => ?_) (fun h15 => ?_)
    · skip
      have h15n : ready = false := by simpa using h15
      refine GoC.seq ?_
      refine GoC.regT [15, 15, 15, 15] [.rd 0, .rd 1, .rd 2, .ef 3] (by kernel_rfl) (by kernel_rfl) ?_
      refine GoR.phase [(0, .gen []), (1, .gen []), (2, .gen [])] [] [(62, .pointer (some ⟨b, 1, none⟩)), (61, .pointer (some ⟨b, 0, none⟩)), (60, .pointer (some ⟨b, 0, none⟩)), (59, .bool (!ready)), (14, .bool (decide ((great : Int) > s.great))), (1, .int .u64 (min now 4611686018427387904)), (12, .int .u64 0), (0, .pointer (some ⟨b, 0, none⟩)), (5, .int .u64 great)] (by kernel_rfl) rfl ak0 ?_
      refine GoR.store rfl rfl (by kernel_rfl) (b := b) (off := 1) (v := .bool false) (by kernel_rfl) (by kernel_rfl) (ti := Try.t4) (by kernel_rfl) hs7 0 rfl (by kernel_rfl) (by kernel_rfl) (Nat.le_of_ble_eq_true (by kernel_rfl)) (cs' := #[.int .u64 s.span, .bool false, .int .u64 s.stop, .int .u64 done, .int .u64 great]) (L' := (Cel b #[.int .u64 s.span, .bool false, .int .u64 s.stop, .int .u64 done, .int .u64 great] 34) :: L) (by kernel_rfl) rfl ?_
      intro w16 hs17
      refine ⟨(opn (by kernel_rfl)), ?_⟩
      refine GoR.done ?_
      refine GoQ.thn ?_
      refine GoC.seq ?_
      refine GoC.regT [1] [.rd 0] (by kernel_rfl) (by kernel_rfl) ?_
      refine GoR.phaseK [(0, .gen [])] [12, 14, 1, 0, 5] [] [(12, .int .u64 0), (14, .bool (decide ((great : Int) > s.great))), (1, .int .u64 (min now 4611686018427387904)), (0, .pointer (some ⟨b, 0, none⟩)), (5, .int .u64 great)] (by kernel_rfl) rfl ak0 ?_
      refine GoR.done ?_
      refine GoQ.thn ?_
      refine GoC.ret ?_
      refine GoQ.skipCR ?_
      refine GoQ.done (.inl rfl) (v := .int .u64 0) (fun a hf => results1 rfl (by kernel_rfl) a hf) ?_
      generalize hr : rlook s now busy ready done great = r
      unfold rlook at hr
      (try simp only [h8, if_true, if_false, Bool.false_eq_true, Bool.true_eq_false, eq_self, Bool.not_true, Bool.not_false, reduceIte] at hr)
      (try simp only [h15n, h15, if_true, if_false, Bool.false_eq_true, Bool.true_eq_false, eq_self, Bool.not_true, Bool.not_false, reduceIte] at hr)
      subst hr
      exact ⟨rfl, hs17.drop 0⟩
    · skip
      have h15n : ready = true := by simpa using h15
      refine GoC.skip ?_
      refine GoQ.thn ?_
      refine GoC.seq ?_
      refine GoC.seq ?_
      refine GoC.join (T := Unit) (E := fun _ => [(70, .bool ((decide ((great : Int) > s.great)) || (!s.runs))), (1, .int .u64 (min now 4611686018427387904)), (12, .int .u64 0), (0, .pointer (some ⟨b, 0, none⟩)), (5, .int .u64 great)]) (F := fun _ w => St w0 ((Cel b #[.int .u64 s.span, .bool s.runs, .int .u64 s.stop, .int .u64 done, .int .u64 great] 34) :: L) w) ?_ ?_
      · skip
        refine GoC.regT [255, 255, 255, 255, 255, 255, 255, 255] [.rd 0, .rd 1, .rd 2, .rd 3, .rd 4, .rd 5, .rd 6, .rd 7] (by kernel_rfl) (by kernel_rfl) ?_
        refine GoR.phase [(0, .gen []), (1, .gen [])] [] [(64, .bool (decide ((great : Int) > s.great))), (63, .bool (decide ((great : Int) > s.great))), (59, .bool (!ready)), (14, .bool (decide ((great : Int) > s.great))), (1, .int .u64 (min now 4611686018427387904)), (12, .int .u64 0), (0, .pointer (some ⟨b, 0, none⟩)), (5, .int .u64 great)] (by kernel_rfl) rfl ak0 ?_
        rcases Bool.eq_false_or_eq_true (decide ((great : Int) > s.great)) with h18 | h18
        · skip
          refine GoR.setB 64 true (by decide) (by kernel_rfl) h18 ?_
          have h18' : (great : Int) > s.great := of_decide_eq_true h18
          refine GoR.phaseK [(2, .gen []), (3, .gen []), (4, .gen []), (5, .gen []), (6, .gen []), (7, .gen [])] [70, 1, 12, 0, 5] [] [(70, .bool true), (1, .int .u64 (min now 4611686018427387904)), (12, .int .u64 0), (0, .pointer (some ⟨b, 0, none⟩)), (5, .int .u64 great)] (by kernel_rfl) rfl ak0 ?_
          refine GoR.done ?_
          refine GoQ.pick [70, 1, 12, 0, 5] (S' := [(70, .bool true), (1, .int .u64 (min now 4611686018427387904)), (12, .int .u64 0), (0, .pointer (some ⟨b, 0, none⟩)), (5, .int .u64 great)]) (by kernel_rfl) ?_
          exact GoQ.meet1 () (by first | rfl | (simp only [h18, Bool.true_or, Bool.false_or, Bool.true_and, Bool.false_and, Bool.or_true, Bool.or_false, Bool.and_true, Bool.and_false]; done) | (simp [h18]; done)) hs7
        · skip
          refine GoR.setB 64 false (by decide) (by kernel_rfl) h18 ?_
          have h18' : ¬ ((great : Int) > s.great) := of_decide_eq_false h18
          refine GoR.phaseK [(2, .gen []), (3, .gen []), (4, .gen []), (5, .gen [.bool s.runs]), (6, .gen []), (7, .gen [])] [70, 1, 12, 0, 5] [(5, [.cell ⟨b, 1, none⟩ (.bool s.runs)])] [(70, .bool (!s.runs)), (1, .int .u64 (min now 4611686018427387904)), (12, .int .u64 0), (0, .pointer (some ⟨b, 0, none⟩)), (5, .int .u64 great)] (by kernel_rfl) rfl (ak (okc (hs7.cell 0 rfl (by kernel_rfl)) ok0) ak0) ?_
          refine GoR.done ?_
          refine GoQ.pick [70, 1, 12, 0, 5] (S' := [(70, .bool (!s.runs)), (1, .int .u64 (min now 4611686018427387904)), (12, .int .u64 0), (0, .pointer (some ⟨b, 0, none⟩)), (5, .int .u64 great)]) (by kernel_rfl) ?_
          exact GoQ.meet1 () (by first | rfl | (simp only [h18, Bool.true_or, Bool.false_or, Bool.true_and, Bool.false_and, Bool.or_true, Bool.or_false, Bool.and_true, Bool.and_false]; done) | (simp [h18]; done)) hs7
      intro _ w19 hs20
      refine GoQ.thn ?_
      refine GoC.cond (t := (decide ((great : Int) > s.great)) || (!s.runs)) (by kernel_rfl) (fun h21 => ?_) (fun h21 => ?_)
      · skip
        refine GoC.seq ?_
        refine GoC.regT [15, 15, 15, 15] [.rd 0, .rd 1, .rd 2, .ef 3] (by kernel_rfl) (by kernel_rfl) ?_
        refine GoR.phase [(0, .gen []), (1, .gen []), (2, .gen [])] [] [(73, .pointer (some ⟨b, 1, none⟩)), (72, .pointer (some ⟨b, 0, none⟩)), (71, .pointer (some ⟨b, 0, none⟩)), (70, .bool ((decide ((great : Int) > s.great)) || (!s.runs))), (1, .int .u64 (min now 4611686018427387904)), (12, .int .u64 0), (0, .pointer (some ⟨b, 0, none⟩)), (5, .int .u64 great)] (by kernel_rfl) rfl ak0 ?_
        refine GoR.store rfl rfl (by kernel_rfl) (b := b) (off := 1) (v := .bool true) (by kernel_rfl) (by kernel_rfl) (ti := Try.t4) (by kernel_rfl) hs20 0 rfl (by kernel_rfl) (by kernel_rfl) (Nat.le_of_ble_eq_true (by kernel_rfl)) (cs' := #[.int .u64 s.span, .bool true, .int .u64 s.stop, .int .u64 done, .int .u64 great]) (L' := (Cel b #[.int .u64 s.span, .bool true, .int .u64 s.stop, .int .u64 done, .int .u64 great] 34) :: L) (by kernel_rfl) rfl ?_
        intro w22 hs23
        refine ⟨(opn (by kernel_rfl)), ?_⟩
        refine GoR.done ?_
        refine GoQ.thn ?_
        refine GoC.seq ?_
        refine GoC.regT [1023, 1023, 1023, 1023, 1023, 1023, 1023, 1023, 1023, 1023] [.rd 0, .rd 1, .rd 2, .rd 3, .rd 4, .rd 5, .rd 6, .rd 7, .rd 8, .ef 9] (by kernel_rfl) (by kernel_rfl) ?_
        refine GoR.phase [(0, .gen []), (1, .gen []), (2, .gen []), (3, .gen []), (4, .gen []), (5, .gen [.int .u64 s.span]), (6, .as_ (.int .u64 ((min now 4611686018427387904) + s.span)) (.gen [])), (7, .gen []), (8, .gen [])] [(5, [.cell ⟨b, 0, none⟩ (.int .u64 s.span)]), (6, [.prop (Value.int .u64 (IntKind.u64.wrap ((min now 4611686018427387904) + s.span)) = Value.int .u64 ((min now 4611686018427387904) + s.span))])] [(82, .pointer (some ⟨b, 2, none⟩)), (81, .pointer (some ⟨b, 0, none⟩)), (80, .int .u64 ((min now 4611686018427387904) + s.span)), (79, .int .u64 s.span), (78, .pointer (some ⟨b, 0, none⟩)), (77, .pointer (some ⟨b, 0, none⟩)), (76, .pointer (some ⟨b, 0, none⟩)), (75, .int .u64 (min now 4611686018427387904)), (74, .pointer (some ⟨b, 0, none⟩)), (73, .pointer (some ⟨b, 1, none⟩)), (72, .pointer (some ⟨b, 0, none⟩)), (71, .pointer (some ⟨b, 0, none⟩)), (70, .bool ((decide ((great : Int) > s.great)) || (!s.runs))), (1, .int .u64 (min now 4611686018427387904)), (12, .int .u64 0), (0, .pointer (some ⟨b, 0, none⟩)), (5, .int .u64 great)] (by kernel_rfl) rfl (ak (okc (hs23.cell 0 rfl (by kernel_rfl)) ok0) (ak (okp (u64ok (by omega) (by omega)) ok0) ak0)) ?_
        refine GoR.store rfl rfl (by kernel_rfl) (b := b) (off := 2) (v := .int .u64 ((min now 4611686018427387904) + s.span)) (by kernel_rfl) (by kernel_rfl) (ti := Try.t28) (by kernel_rfl) hs23 0 rfl (by kernel_rfl) (by kernel_rfl) (Nat.le_of_ble_eq_true (by kernel_rfl)) (cs' := #[.int .u64 s.span, .bool true, .int .u64 ((min now 4611686018427387904) + s.span), .int .u64 done, .int .u64 great]) (L' := (Cel b #[.int .u64 s.span, .bool true, .int .u64 ((min now 4611686018427387904) + s.span), .int .u64 done, .int .u64 great] 34) :: L) (by kernel_rfl) rfl ?_
        intro w24 hs25
        refine ⟨(opn (by kernel_rfl)), ?_⟩
        refine GoR.done ?_
        refine GoQ.thn ?_
        refine GoC.seq ?_
        refine GoC.regT [1] [.rd 0] (by kernel_rfl) (by kernel_rfl) ?_
        refine GoR.phaseK [(0, .gen [])] [12, 1, 0, 5] [] [(12, .int .u64 0), (1, .int .u64 (min now 4611686018427387904)), (0, .pointer (some ⟨b, 0, none⟩)), (5, .int .u64 great)] (by kernel_rfl) rfl ak0 ?_
        refine GoR.done ?_
        refine GoQ.thn ?_
        refine GoC.ret ?_
        refine GoQ.skipCR ?_
        refine GoQ.done (.inl rfl) (v := .int .u64 0) (fun a hf => results1 rfl (by kernel_rfl) a hf) ?_
        generalize hr : rlook s now busy ready done great = r
        unfold rlook at hr
        (try simp only [h8, if_true, if_false, Bool.false_eq_true, Bool.true_eq_false, eq_self, Bool.not_true, Bool.not_false, reduceIte] at hr)
        (try simp only [h15n, h15, if_true, if_false, Bool.false_eq_true, Bool.true_eq_false, eq_self, Bool.not_true, Bool.not_false, reduceIte] at hr)
        (try simp only [h21, if_true, if_false, Bool.false_eq_true, Bool.true_eq_false, eq_self, Bool.not_true, Bool.not_false, reduceIte] at hr)
        subst hr
        exact ⟨rfl, hs25.drop 0⟩
      · skip
        have h21a : (decide ((great : Int) > s.great)) = false := (Bool.or_eq_false_iff.1 h21).1
        have h21a' : ¬ ((great : Int) > s.great) := of_decide_eq_false h21a
        have h21b : (!s.runs) = false := (Bool.or_eq_false_iff.1 h21).2
        have h21bn : s.runs = true := by simpa using h21b
        refine GoC.skip ?_
        refine GoQ.thn ?_
        refine GoC.seq ?_
        refine GoC.seq ?_
        refine GoC.regT [63, 63, 63, 63, 63, 63] [.rd 0, .rd 1, .rd 2, .rd 3, .rd 4, .rd 5] (by kernel_rfl) (by kernel_rfl) ?_
        refine GoR.phaseK [(0, .gen []), (1, .gen []), (2, .gen []), (3, .gen []), (4, .gen [.int .u64 s.stop]), (5, .gen [])] [88, 1, 12, 0, 5] [(4, [.cell ⟨b, 2, none⟩ (.int .u64 s.stop)])] [(88, .bool (decide ((min now 4611686018427387904 : Int) < s.stop))), (1, .int .u64 (min now 4611686018427387904)), (12, .int .u64 0), (0, .pointer (some ⟨b, 0, none⟩)), (5, .int .u64 great)] (by kernel_rfl) rfl (ak (okc (hs20.cell 0 rfl (by kernel_rfl)) ok0) ak0) ?_
        refine GoR.done ?_
        refine GoQ.thn ?_
        refine GoC.cond (t := decide ((min now 4611686018427387904 : Int) < s.stop)) (by kernel_rfl) (fun h26 => ?_) (fun h26 => ?_)
        · skip
          have h26' : (min now 4611686018427387904 : Int) < s.stop := of_decide_eq_true h26
          refine GoC.seq ?_
          refine GoC.regT [1] [.rd 0] (by kernel_rfl) (by kernel_rfl) ?_
          refine GoR.phaseK [(0, .gen [])] [12, 1, 0, 5] [] [(12, .int .u64 0), (1, .int .u64 (min now 4611686018427387904)), (0, .pointer (some ⟨b, 0, none⟩)), (5, .int .u64 great)] (by kernel_rfl) rfl ak0 ?_
          refine GoR.done ?_
          refine GoQ.thn ?_
          refine GoC.ret ?_
          refine GoQ.skipCR ?_
          refine GoQ.done (.inl rfl) (v := .int .u64 0) (fun a hf => results1 rfl (by kernel_rfl) a hf) ?_
          generalize hr : rlook s now busy ready done great = r
          unfold rlook at hr
          (try simp only [h8, if_true, if_false, Bool.false_eq_true, Bool.true_eq_false, eq_self, Bool.not_true, Bool.not_false, reduceIte] at hr)
          (try simp only [h15n, h15, if_true, if_false, Bool.false_eq_true, Bool.true_eq_false, eq_self, Bool.not_true, Bool.not_false, reduceIte] at hr)
          (try simp only [h21, if_true, if_false, Bool.false_eq_true, Bool.true_eq_false, eq_self, Bool.not_true, Bool.not_false, reduceIte] at hr)
          (try simp only [h26, h26', if_true, if_false, Bool.false_eq_true, Bool.true_eq_false, eq_self, Bool.not_true, Bool.not_false, reduceIte] at hr)
          subst hr
          exact ⟨rfl, hs20.drop 0⟩
        · skip
          have h26' : ¬ ((min now 4611686018427387904 : Int) < s.stop) := of_decide_eq_false h26
          refine GoC.skip ?_
          refine GoQ.thn ?_
          refine GoC.seq ?_
          refine GoC.regT [1023, 1023, 1023, 1023, 1023, 1023, 1023, 1023, 1023, 1023] [.rd 0, .rd 1, .rd 2, .rd 3, .rd 4, .rd 5, .rd 6, .rd 7, .rd 8, .ef 9] (by kernel_rfl) (by kernel_rfl) ?_
          refine GoR.phase [(0, .gen []), (1, .gen []), (2, .gen []), (3, .gen []), (4, .gen [.int .u64 s.span]), (5, .as_ (.int .u64 (2 * s.span)) (.gen [])), (6, .as_ (.int .u64 (min (2 * s.span) 1024)) (.gen [])), (7, .gen []), (8, .gen [])] [(4, [.cell ⟨b, 0, none⟩ (.int .u64 s.span)]), (5, [.prop (Value.int .u64 (IntKind.u64.wrap (2 * s.span)) = Value.int .u64 (2 * s.span))]), (6, [.prop (Value.int .u64 (if 1024 < (2 * s.span) then 1024 else (2 * s.span)) = Value.int .u64 (min (2 * s.span) 1024))])] [(97, .pointer (some ⟨b, 0, none⟩)), (96, .pointer (some ⟨b, 0, none⟩)), (95, .int .u64 (min (2 * s.span) 1024)), (94, .int .u64 (2 * s.span)), (93, .int .u64 s.span), (92, .pointer (some ⟨b, 0, none⟩)), (91, .pointer (some ⟨b, 0, none⟩)), (90, .pointer (some ⟨b, 0, none⟩)), (89, .pointer (some ⟨b, 0, none⟩)), (88, .bool (decide ((min now 4611686018427387904 : Int) < s.stop))), (1, .int .u64 (min now 4611686018427387904)), (12, .int .u64 0), (0, .pointer (some ⟨b, 0, none⟩)), (5, .int .u64 great)] (by kernel_rfl) rfl (ak (okc (hs20.cell 0 rfl (by kernel_rfl)) ok0) (ak (okp (u64ok (by omega) (by omega)) ok0) (ak (okp minok ok0) ak0))) ?_
          refine GoR.store rfl rfl (by kernel_rfl) (b := b) (off := 0) (v := .int .u64 (min (2 * s.span) 1024)) (by kernel_rfl) (by kernel_rfl) (ti := Try.t28) (by kernel_rfl) hs20 0 rfl (by kernel_rfl) (by kernel_rfl) (Nat.le_of_ble_eq_true (by kernel_rfl)) (cs' := #[.int .u64 (min (2 * s.span) 1024), .bool s.runs, .int .u64 s.stop, .int .u64 done, .int .u64 great]) (L' := (Cel b #[.int .u64 (min (2 * s.span) 1024), .bool s.runs, .int .u64 s.stop, .int .u64 done, .int .u64 great] 34) :: L) (by kernel_rfl) rfl ?_
          intro w27 hs28
          refine ⟨(opn (by kernel_rfl)), ?_⟩
          refine GoR.done ?_
          refine GoQ.thn ?_
          refine GoC.seq ?_
          refine GoC.regT [1023, 1023, 1023, 1023, 1023, 1023, 1023, 1023, 1023, 1023] [.rd 0, .rd 1, .rd 2, .rd 3, .rd 4, .rd 5, .rd 6, .rd 7, .rd 8, .ef 9] (by kernel_rfl) (by kernel_rfl) ?_
          refine GoR.phase [(0, .gen []), (1, .gen []), (2, .gen []), (3, .gen []), (4, .gen []), (5, .gen [.int .u64 (min (2 * s.span) 1024)]), (6, .as_ (.int .u64 ((min now 4611686018427387904) + (min (2 * s.span) 1024))) (.gen [])), (7, .gen []), (8, .gen [])] [(5, [.cell ⟨b, 0, none⟩ (.int .u64 (min (2 * s.span) 1024))]), (6, [.prop (Value.int .u64 (IntKind.u64.wrap ((min now 4611686018427387904) + (min (2 * s.span) 1024))) = Value.int .u64 ((min now 4611686018427387904) + (min (2 * s.span) 1024)))])] [(106, .pointer (some ⟨b, 2, none⟩)), (105, .pointer (some ⟨b, 0, none⟩)), (104, .int .u64 ((min now 4611686018427387904) + (min (2 * s.span) 1024))), (103, .int .u64 (min (2 * s.span) 1024)), (102, .pointer (some ⟨b, 0, none⟩)), (101, .pointer (some ⟨b, 0, none⟩)), (100, .pointer (some ⟨b, 0, none⟩)), (99, .int .u64 (min now 4611686018427387904)), (98, .pointer (some ⟨b, 0, none⟩)), (97, .pointer (some ⟨b, 0, none⟩)), (96, .pointer (some ⟨b, 0, none⟩)), (95, .int .u64 (min (2 * s.span) 1024)), (94, .int .u64 (2 * s.span)), (93, .int .u64 s.span), (92, .pointer (some ⟨b, 0, none⟩)), (91, .pointer (some ⟨b, 0, none⟩)), (90, .pointer (some ⟨b, 0, none⟩)), (89, .pointer (some ⟨b, 0, none⟩)), (88, .bool (decide ((min now 4611686018427387904 : Int) < s.stop))), (1, .int .u64 (min now 4611686018427387904)), (12, .int .u64 0), (0, .pointer (some ⟨b, 0, none⟩)), (5, .int .u64 great)] (by kernel_rfl) rfl (ak (okc (hs28.cell 0 rfl (by kernel_rfl)) ok0) (ak (okp (u64ok (by omega) (by omega)) ok0) ak0)) ?_
          refine GoR.store rfl rfl (by kernel_rfl) (b := b) (off := 2) (v := .int .u64 ((min now 4611686018427387904) + (min (2 * s.span) 1024))) (by kernel_rfl) (by kernel_rfl) (ti := Try.t28) (by kernel_rfl) hs28 0 rfl (by kernel_rfl) (by kernel_rfl) (Nat.le_of_ble_eq_true (by kernel_rfl)) (cs' := #[.int .u64 (min (2 * s.span) 1024), .bool s.runs, .int .u64 ((min now 4611686018427387904) + (min (2 * s.span) 1024)), .int .u64 done, .int .u64 great]) (L' := (Cel b #[.int .u64 (min (2 * s.span) 1024), .bool s.runs, .int .u64 ((min now 4611686018427387904) + (min (2 * s.span) 1024)), .int .u64 done, .int .u64 great] 34) :: L) (by kernel_rfl) rfl ?_
          intro w29 hs30
          refine ⟨(opn (by kernel_rfl)), ?_⟩
          refine GoR.done ?_
          refine GoQ.thn ?_
          refine GoC.seq ?_
          refine GoC.regT [7, 7, 7] [.rd 0, .rd 1, .rd 2] (by kernel_rfl) (by kernel_rfl) ?_
          refine GoR.phaseK [(0, .gen []), (1, .gen []), (2, .gen [])] [12] [] [(12, .int .u64 (IntKind.u64.wrap (great + 1)))] (by kernel_rfl) rfl ak0 ?_
          refine GoR.done ?_
          refine GoQ.thn ?_
          refine GoC.ret ?_
          refine GoQ.done (.inl rfl) (v := .int .u64 (IntKind.u64.wrap (great + 1))) (fun a hf => results1 rfl (by kernel_rfl) a hf) ?_
          generalize hr : rlook s now busy ready done great = r
          unfold rlook at hr
          (try simp only [h8, if_true, if_false, Bool.false_eq_true, Bool.true_eq_false, eq_self, Bool.not_true, Bool.not_false, reduceIte] at hr)
          (try simp only [h15n, h15, if_true, if_false, Bool.false_eq_true, Bool.true_eq_false, eq_self, Bool.not_true, Bool.not_false, reduceIte] at hr)
          (try simp only [h21, if_true, if_false, Bool.false_eq_true, Bool.true_eq_false, eq_self, Bool.not_true, Bool.not_false, reduceIte] at hr)
          (try simp only [h26, h26', if_true, if_false, Bool.false_eq_true, Bool.true_eq_false, eq_self, Bool.not_true, Bool.not_false, reduceIte] at hr)
          subst hr
          exact ⟨rfl, hs30.drop 0⟩
end Go.Proofs.Ytikbfcejdmiciaa
