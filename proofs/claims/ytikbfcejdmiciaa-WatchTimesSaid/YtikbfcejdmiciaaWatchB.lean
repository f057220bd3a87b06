/-
  The walks of the laws of layer 20.
-/
import Derived.Test.YtikbfcejdmiciaaProg
import Derived.Test.YtikbfcejdmiciaaWatchA
namespace Go.Proofs.Ytikbfcejdmiciaa
open Go.RowKit Go.Sx
set_option linter.unusedVariables false
set_option linter.unusedSimpArgs false
set_option maxRecDepth 100000

def eqv (a b : WS) : Prop := a.span = b.span ∧ a.runs = b.runs ∧ a.done = b.done ∧ a.great = b.great ∧ (a.runs = true → a.stop = b.stop)
theorem look_eqv {a b : WS} (h : eqv a b) (now : Int) (busy ready : Bool) (done great : Int) :
    (look a now busy ready done great).1 = (rlook b now busy ready done great).1 ∧ eqv (look a now busy ready done great).2 (rlook b now busy ready done great).2 := by
  obtain ⟨sa, ar, ae, ad, ag⟩ := a
  obtain ⟨bs, br, be, bd, bg⟩ := b
  obtain ⟨h1, h2, h3, h4, h5⟩ := h
  simp only at h1 h2 h3 h4 h5
  subst h1 h2 h3 h4
  unfold look rlook eqv
  simp only
  by_cases c1 : (!busy || decide (done > ad)) = true
  · simp only [c1, if_true]
    exact ⟨trivial, trivial, trivial, trivial, trivial, fun hb => by simp [hb]⟩
  · rw [if_neg c1, if_neg c1]
    by_cases c2 : ready = false
    · rw [if_pos c2, if_pos c2]; exact ⟨rfl, rfl, rfl, rfl, rfl, fun hb => by cases hb⟩
    · rw [if_neg c2, if_neg c2]
      by_cases c3 : (decide (great > ag) || !ar) = true
      · rw [if_pos c3, if_pos c3]; exact ⟨rfl, rfl, rfl, rfl, rfl, fun _ => rfl⟩
      · rw [if_neg c3, if_neg c3]
        have hr : ar = true := by cases ar <;> simp at c3 ⊢
        have he := h5 hr
        subst he
        subst hr
        by_cases c4 : min now 4611686018427387904 ≥ ae
        · rw [if_pos c4, if_neg (by omega)]; exact ⟨rfl, rfl, rfl, rfl, rfl, fun _ => rfl⟩
        · rw [if_neg c4, if_pos (by omega)]; exact ⟨rfl, rfl, rfl, rfl, rfl, fun _ => rfl⟩
theorem look_span {s : WS} (h : 0 ≤ s.span ∧ s.span ≤ 1024) (now : Int) (busy ready : Bool) (done great : Int) : 0 ≤ (look s now busy ready done great).2.span ∧ (look s now busy ready done great).2.span ≤ 1024 := by
  unfold look
  repeat' split
  all_goals (simp only; omega)
structure SV where
  now : Int
  busy : Bool
  ready : Bool
  done : Int
  great : Int
def SV.cells (x : SV) : Array Value := #[.int .u64 x.now, .bool x.busy, .bool x.ready, .int .u64 x.done, .int .u64 x.great]
structure PG where
  k : Nat
  a : WS
  b : WS
def PG.step (x : PG) (s : SV) : PG := ⟨x.k + 1, (look x.a s.now s.busy s.ready s.done s.great).2, (rlook x.b s.now s.busy s.ready s.done s.great).2⟩
structure TG where
  k : Nat
  s : WS
  great : Int
  next : Int
  span : Int
def TG.inv (now : Int) (x : TG) : Prop := x.s.span = x.span ∧ 16 ≤ x.span ∧ x.span ≤ 1024 ∧ x.s.done = 0 ∧ 0 ≤ x.great ∧ x.great ≤ x.k ∧
  ((x.s.runs = true ∧ x.s.great = x.great ∧ x.s.stop = x.next ∧ now + x.k ≤ x.next ∧ x.next ≤ now + x.k + x.span) ∨ ((x.s.runs = false ∨ x.s.great < x.great) ∧ x.s.great ≤ x.great ∧ x.next = now + x.k + x.span))
/-- what a look of the moment now + k comes to -/
theorem TG.look {now : Int} {x : TG} (h : TG.inv now x) (h0 : 0 ≤ now) (h1 : now ≤ 1152921504606846976) (hk : x.k < 3000) :
    (now + x.k = x.next ∧ look x.s (now + x.k) true true 0 x.great = (x.great + 1, ⟨min (2 * x.span) 1024, true, now + x.k + min (2 * x.span) 1024, 0, x.great⟩) ∧ x.s.great = x.great) ∨
    (now + x.k ≠ x.next ∧ look x.s (now + x.k) true true 0 x.great = (0, ⟨x.span, true, x.next, 0, x.great⟩) ∧ now + (x.k + 1) ≤ x.next) := by
  obtain ⟨k, ⟨sp, ru, st, dn, gr⟩, great, next, span⟩ := x
  obtain ⟨e1, e2, e3, e4, e5, e6, h⟩ := h
  simp only at *
  subst e1 e4
  have hm : min (now + (k : Int)) 4611686018427387904 = now + k := by omega
  unfold Go.Proofs.Ytikbfcejdmiciaa.look
  rcases h with ⟨rfl, rfl, rfl, h4, h4'⟩ | ⟨h1', h2, h3⟩
  · have hw : IntKind.u64.wrap (gr + 1) = gr + 1 := u64w (by omega) (by omega)
    by_cases c : now + (k : Int) = st
    · refine .inl ⟨c, ?_, rfl⟩
      rw [if_neg (by simp), if_neg (by simp), if_neg (by simp), if_pos (show min (now + (k : Int)) 4611686018427387904 ≥ st by omega), hm, hw]
    · refine .inr ⟨c, ?_, by omega⟩
      simp [hm]
      omega
  · refine .inr ⟨by omega, ?_, by omega⟩
    have c3 : (decide (great > gr) || !ru) = true := by rcases h1' with rfl | h1' <;> simp [*]
    rw [if_neg (by simp), if_neg (by simp), if_pos c3, hm, h3]
theorem works_spec {w0 w : World} {L : List Asn} (hs : St w0 L w) : Calls Try.prog 5 #[] w (Ret fun v w' => v = .bool true ∧ St w0 L w') := by
  refine enter (args := []) Try.func5 rfl Try.ntmps5 (Nat.le_of_ble_eq_true (by kernel_rfl)) ?_
  refine GoC.slots (S' := []) rfl ?_
  refine GoC.seq ?_
  refine GoC.regT [1] [.rd 0] (by kernel_rfl) (by kernel_rfl) ?_
  refine GoR.phaseK [(0, .gen [])] [0] [] [(0, .bool false)] (by kernel_rfl) rfl ak0 ?_
  refine GoR.done ?_
  refine GoQ.thn ?_
  refine GoC.seq ?_
  refine GoC.regT [3, 3] [.ef 0, .rd 1] (by kernel_rfl) (by kernel_rfl) ?_
  refine GoR.call rfl rfl (by kernel_rfl) (f := 6) (args := #[]) (by kernel_rfl) Try.call6 (new_spec hs) ?_
  rintro v3 w4 ⟨b1, rfl, hs2⟩
  refine ⟨(opn (by kernel_rfl)), ?_⟩
  refine GoR.phaseK [(1, .gen [])] [1, 0] [] [(1, .pointer (some ⟨b1, 0, none⟩)), (0, .bool false)] (by kernel_rfl) rfl ak0 ?_
  refine GoR.done ?_
  refine GoQ.thn ?_
  refine GoC.seq ?_
  refine GoC.regT [7, 7, 7] [.rd 0, .ef 1, .rd 2] (by kernel_rfl) (by kernel_rfl) ?_
  refine GoR.phase [(0, .gen [])] [] [(9, .pointer (some ⟨b1, 0, none⟩)), (1, .pointer (some ⟨b1, 0, none⟩)), (0, .bool false)] (by kernel_rfl) rfl ak0 ?_
  refine GoR.call rfl rfl (by kernel_rfl) (f := 8) (args := #[.pointer (some ⟨b1, 0, none⟩), .int .u64 0, .bool true, .bool true, .int .u64 0, .int .u64 0]) (by kernel_rfl) Try.call8 (look_spec ⟨16, false, 0, 0, 0⟩ 0 true true 0 0 (by decide) (by decide) (by decide) hs2) ?_
  rintro v6 w7 ⟨rfl, hs5⟩
  have hs8 : St w0 ((Cel b1 #[.int .u64 16, .bool true, .int .u64 16, .int .u64 0, .int .u64 0] 39) :: L) w7 := Eq.mp (by kernel_rfl) hs5
  refine ⟨(opn (by kernel_rfl)), ?_⟩
  refine GoR.phaseK [(2, .gen [])] [2, 1, 0] [] [(2, .int .u64 0), (1, .pointer (some ⟨b1, 0, none⟩)), (0, .bool false)] (by kernel_rfl) rfl ak0 ?_
  refine GoR.done ?_
  refine GoQ.thn ?_
  refine GoC.seq ?_
  refine GoC.regT [7, 7, 7] [.rd 0, .ef 1, .rd 2] (by kernel_rfl) (by kernel_rfl) ?_
  refine GoR.phase [(0, .gen [])] [] [(11, .pointer (some ⟨b1, 0, none⟩)), (2, .int .u64 0), (1, .pointer (some ⟨b1, 0, none⟩)), (0, .bool false)] (by kernel_rfl) rfl ak0 ?_
  refine GoR.call rfl rfl (by kernel_rfl) (f := 8) (args := #[.pointer (some ⟨b1, 0, none⟩), .int .u64 15, .bool true, .bool true, .int .u64 0, .int .u64 0]) (by kernel_rfl) Try.call8 (look_spec ⟨16, true, 16, 0, 0⟩ 15 true true 0 0 (by decide) (by decide) (by decide) hs8) ?_
  rintro v10 w11 ⟨rfl, hs9⟩
  have hs12 : St w0 ((Cel b1 #[.int .u64 16, .bool true, .int .u64 16, .int .u64 0, .int .u64 0] 39) :: L) w11 := Eq.mp (by kernel_rfl) hs9
  refine ⟨(opn (by kernel_rfl)), ?_⟩
  refine GoR.phaseK [(2, .gen [])] [3, 2, 1, 0] [] [(3, .int .u64 0), (2, .int .u64 0), (1, .pointer (some ⟨b1, 0, none⟩)), (0, .bool false)] (by kernel_rfl) rfl ak0 ?_
  refine GoR.done ?_
  refine GoQ.thn ?_
  refine GoC.seq ?_
  refine GoC.regT [7, 7, 7] [.rd 0, .ef 1, .rd 2] (by kernel_rfl) (by kernel_rfl) ?_
  refine GoR.phase [(0, .gen [])] [] [(13, .pointer (some ⟨b1, 0, none⟩)), (3, .int .u64 0), (2, .int .u64 0), (1, .pointer (some ⟨b1, 0, none⟩)), (0, .bool false)] (by kernel_rfl) rfl ak0 ?_
  refine GoR.call rfl rfl (by kernel_rfl) (f := 8) (args := #[.pointer (some ⟨b1, 0, none⟩), .int .u64 16, .bool true, .bool true, .int .u64 0, .int .u64 0]) (by kernel_rfl) Try.call8 (look_spec ⟨16, true, 16, 0, 0⟩ 16 true true 0 0 (by decide) (by decide) (by decide) hs12) ?_
  rintro v14 w15 ⟨rfl, hs13⟩
  have hs16 : St w0 ((Cel b1 #[.int .u64 32, .bool true, .int .u64 48, .int .u64 0, .int .u64 0] 39) :: L) w15 := Eq.mp (by kernel_rfl) hs13
  refine ⟨(opn (by kernel_rfl)), ?_⟩
  refine GoR.phaseK [(2, .gen [])] [4, 3, 2, 1, 0] [] [(4, .int .u64 1), (3, .int .u64 0), (2, .int .u64 0), (1, .pointer (some ⟨b1, 0, none⟩)), (0, .bool false)] (by kernel_rfl) rfl ak0 ?_
  refine GoR.done ?_
  refine GoQ.thn ?_
  refine GoC.seq ?_
  refine GoC.regT [7, 7, 7] [.rd 0, .ef 1, .rd 2] (by kernel_rfl) (by kernel_rfl) ?_
  refine GoR.phase [(0, .gen [])] [] [(15, .pointer (some ⟨b1, 0, none⟩)), (4, .int .u64 1), (3, .int .u64 0), (2, .int .u64 0), (1, .pointer (some ⟨b1, 0, none⟩)), (0, .bool false)] (by kernel_rfl) rfl ak0 ?_
  refine GoR.call rfl rfl (by kernel_rfl) (f := 8) (args := #[.pointer (some ⟨b1, 0, none⟩), .int .u64 20, .bool true, .bool true, .int .u64 0, .int .u64 1]) (by kernel_rfl) Try.call8 (look_spec ⟨32, true, 48, 0, 0⟩ 20 true true 0 1 (by decide) (by decide) (by decide) hs16) ?_
  rintro v18 w19 ⟨rfl, hs17⟩
  have hs20 : St w0 ((Cel b1 #[.int .u64 32, .bool true, .int .u64 52, .int .u64 0, .int .u64 1] 39) :: L) w19 := Eq.mp (by kernel_rfl) hs17
  refine ⟨(opn (by kernel_rfl)), ?_⟩
  refine GoR.phaseK [(2, .gen [])] [5, 4, 3, 2, 1, 0] [] [(5, .int .u64 0), (4, .int .u64 1), (3, .int .u64 0), (2, .int .u64 0), (1, .pointer (some ⟨b1, 0, none⟩)), (0, .bool false)] (by kernel_rfl) rfl ak0 ?_
  refine GoR.done ?_
  refine GoQ.thn ?_
  refine GoC.seq ?_
  refine GoC.regT [7, 7, 7] [.rd 0, .ef 1, .rd 2] (by kernel_rfl) (by kernel_rfl) ?_
  refine GoR.phase [(0, .gen [])] [] [(17, .pointer (some ⟨b1, 0, none⟩)), (5, .int .u64 0), (4, .int .u64 1), (3, .int .u64 0), (2, .int .u64 0), (1, .pointer (some ⟨b1, 0, none⟩)), (0, .bool false)] (by kernel_rfl) rfl ak0 ?_
  refine GoR.call rfl rfl (by kernel_rfl) (f := 8) (args := #[.pointer (some ⟨b1, 0, none⟩), .int .u64 51, .bool true, .bool true, .int .u64 0, .int .u64 1]) (by kernel_rfl) Try.call8 (look_spec ⟨32, true, 52, 0, 1⟩ 51 true true 0 1 (by decide) (by decide) (by decide) hs20) ?_
  rintro v22 w23 ⟨rfl, hs21⟩
  have hs24 : St w0 ((Cel b1 #[.int .u64 32, .bool true, .int .u64 52, .int .u64 0, .int .u64 1] 39) :: L) w23 := Eq.mp (by kernel_rfl) hs21
  refine ⟨(opn (by kernel_rfl)), ?_⟩
  refine GoR.phaseK [(2, .gen [])] [6, 5, 4, 3, 2, 1, 0] [] [(6, .int .u64 0), (5, .int .u64 0), (4, .int .u64 1), (3, .int .u64 0), (2, .int .u64 0), (1, .pointer (some ⟨b1, 0, none⟩)), (0, .bool false)] (by kernel_rfl) rfl ak0 ?_
  refine GoR.done ?_
  refine GoQ.thn ?_
  refine GoC.seq ?_
  refine GoC.regT [7, 7, 7] [.rd 0, .ef 1, .rd 2] (by kernel_rfl) (by kernel_rfl) ?_
  refine GoR.phase [(0, .gen [])] [] [(19, .pointer (some ⟨b1, 0, none⟩)), (6, .int .u64 0), (5, .int .u64 0), (4, .int .u64 1), (3, .int .u64 0), (2, .int .u64 0), (1, .pointer (some ⟨b1, 0, none⟩)), (0, .bool false)] (by kernel_rfl) rfl ak0 ?_
  refine GoR.call rfl rfl (by kernel_rfl) (f := 8) (args := #[.pointer (some ⟨b1, 0, none⟩), .int .u64 52, .bool true, .bool true, .int .u64 0, .int .u64 1]) (by kernel_rfl) Try.call8 (look_spec ⟨32, true, 52, 0, 1⟩ 52 true true 0 1 (by decide) (by decide) (by decide) hs24) ?_
  rintro v26 w27 ⟨rfl, hs25⟩
  have hs28 : St w0 ((Cel b1 #[.int .u64 64, .bool true, .int .u64 116, .int .u64 0, .int .u64 1] 39) :: L) w27 := Eq.mp (by kernel_rfl) hs25
  refine ⟨(opn (by kernel_rfl)), ?_⟩
  refine GoR.phaseK [(2, .gen [])] [7, 6, 5, 4, 3, 2, 1, 0] [] [(7, .int .u64 2), (6, .int .u64 0), (5, .int .u64 0), (4, .int .u64 1), (3, .int .u64 0), (2, .int .u64 0), (1, .pointer (some ⟨b1, 0, none⟩)), (0, .bool false)] (by kernel_rfl) rfl ak0 ?_
  refine GoR.done ?_
  refine GoQ.thn ?_
  refine GoC.seq ?_
  refine GoC.regT [4294967295, 4294967295, 4294967295, 4294967295, 4294967295, 4294967295, 4294967295, 4294967295, 4294967295, 4294967295, 4294967295, 4294967295, 4294967295, 4294967295, 4294967295, 4294967295, 4294967295, 4294967295, 4294967295, 4294967295, 4294967295, 4294967295, 4294967295, 4294967295, 4294967295, 4294967295, 4294967295, 4294967295, 4294967295, 4294967295, 4294967295, 4294967295] [.rd 0, .rd 1, .rd 2, .rd 3, .rd 4, .rd 5, .rd 6, .rd 7, .rd 8, .rd 9, .rd 10, .rd 11, .rd 12, .rd 13, .rd 14, .rd 15, .rd 16, .rd 17, .rd 18, .rd 19, .rd 20, .rd 21, .rd 22, .rd 23, .ef 24, .rd 25, .rd 26, .rd 27, .rd 28, .rd 29, .rd 30, .rd 31] (by kernel_rfl) (by kernel_rfl) ?_
  refine GoR.phase [(0, .gen []), (1, .gen []), (2, .gen []), (3, .gen []), (4, .gen []), (5, .gen []), (6, .gen []), (7, .gen []), (8, .gen []), (9, .gen []), (10, .gen []), (11, .gen []), (12, .gen []), (13, .gen []), (14, .gen []), (15, .gen []), (16, .gen []), (17, .gen []), (18, .gen []), (19, .gen []), (20, .gen []), (21, .gen []), (22, .gen []), (23, .gen [])] [] [(44, .pointer (some ⟨b1, 0, none⟩)), (43, .bool true), (42, .bool true), (41, .bool true), (40, .int .u64 2), (39, .bool true), (38, .bool true), (37, .bool true), (36, .int .u64 0), (35, .bool true), (34, .bool true), (33, .bool true), (32, .int .u64 0), (31, .bool true), (30, .bool true), (29, .bool true), (28, .int .u64 1), (27, .bool true), (26, .bool true), (25, .bool true), (24, .int .u64 0), (23, .bool true), (22, .bool true), (21, .int .u64 0), (7, .int .u64 2), (6, .int .u64 0), (5, .int .u64 0), (4, .int .u64 1), (3, .int .u64 0), (2, .int .u64 0), (1, .pointer (some ⟨b1, 0, none⟩)), (0, .bool false)] (by kernel_rfl) rfl ak0 ?_
  refine GoR.call rfl rfl (by kernel_rfl) (f := 10) (args := #[.pointer (some ⟨b1, 0, none⟩)]) (by kernel_rfl) Try.call10 (span_spec ⟨64, true, 116, 0, 1⟩ hs28) ?_
  rintro v30 w31 ⟨rfl, hs29⟩
  have hs32 : St w0 ((Cel b1 #[.int .u64 64, .bool true, .int .u64 116, .int .u64 0, .int .u64 1] 39) :: L) w31 := Eq.mp (by kernel_rfl) hs29
  refine ⟨(opn (by kernel_rfl)), ?_⟩
  refine GoR.phaseK [(25, .gen []), (26, .gen []), (27, .gen []), (28, .gen []), (29, .gen []), (30, .gen []), (31, .gen [])] [0] [] [(0, .bool true)] (by kernel_rfl) rfl ak0 ?_
  refine GoR.done ?_
  refine GoQ.thn ?_
  refine GoC.ret ?_
  refine GoQ.done (.inl rfl) (v := .bool true) (fun a hf => results1 rfl (by kernel_rfl) a hf) ?_
  exact ⟨rfl, hs32.drop 1⟩
set_option maxHeartbeats 400000 in
theorem times_walk (W : World) (now mo : Int) (h0 : 0 ≤ now) (h0' : now ≤ 18446744073709551615) (m0 : 0 ≤ mo) (m0' : mo ≤ 65535) : Calls Try.prog 4 #[.int .u64 now, .int .u16 mo] W (Ret fun v w' => v = .bool true ∧ Below W.heap.size W w') := by
  refine enter (args := [.int .u64 now, .int .u16 mo]) Try.func4 rfl Try.ntmps4 (Nat.le_of_ble_eq_true (by kernel_rfl)) ?_
  refine GoC.slots (S' := [(0, .int .u64 now), (1, .int .u16 mo)]) rfl ?_
  refine GoC.seq ?_
  refine GoC.regT [1] [.rd 0] (by kernel_rfl) (by kernel_rfl) ?_
  refine GoR.phaseK [(0, .gen [])] [4, 0, 1] [] [(4, .bool false), (0, .int .u64 now), (1, .int .u16 mo)] (by kernel_rfl) rfl ak0 ?_
  refine GoR.done ?_
  refine GoQ.thn ?_
  refine GoC.seq ?_
  refine GoC.seq ?_
  refine GoC.join (T := Unit) (E := fun _ => [(16, .bool ((decide ((now : Int) > 1152921504606846976)) || (decide ((mo : Int) > 3000)))), (4, .bool false), (0, .int .u64 now), (1, .int .u16 mo)]) (F := fun _ w => St W ((Base W) :: []) w) ?_ ?_
  · skip
    refine GoC.regT [63, 63, 63, 63, 63, 63] [.rd 0, .rd 1, .rd 2, .rd 3, .rd 4, .rd 5] (by kernel_rfl) (by kernel_rfl) ?_
    refine GoR.phase [(0, .gen []), (1, .gen []), (2, .gen [])] [] [(13, .bool (decide ((now : Int) > 1152921504606846976))), (12, .bool (decide ((now : Int) > 1152921504606846976))), (11, .int .u64 now), (4, .bool false), (0, .int .u64 now), (1, .int .u16 mo)] (by kernel_rfl) rfl ak0 ?_
    rcases Bool.eq_false_or_eq_true (decide ((now : Int) > 1152921504606846976)) with h1 | h1
    · skip
      refine GoR.setB 13 true (by decide) (by kernel_rfl) h1 ?_
      have h1' : (now : Int) > 1152921504606846976 := of_decide_eq_true h1
      refine GoR.phaseK [(3, .gen []), (4, .gen []), (5, .gen [])] [16, 4, 0, 1] [] [(16, .bool true), (4, .bool false), (0, .int .u64 now), (1, .int .u16 mo)] (by kernel_rfl) rfl ak0 ?_
      refine GoR.done ?_
      refine GoQ.pick [16, 4, 0, 1] (S' := [(16, .bool true), (4, .bool false), (0, .int .u64 now), (1, .int .u16 mo)]) (by kernel_rfl) ?_
      exact GoQ.meet1 () (by first | rfl | (simp only [h1, Bool.true_or, Bool.false_or, Bool.true_and, Bool.false_and, Bool.or_true, Bool.or_false, Bool.and_true, Bool.and_false]; done) | (simp [h1]; done)) (St.start W)
    · skip
      refine GoR.setB 13 false (by decide) (by kernel_rfl) h1 ?_
      have h1' : ¬ ((now : Int) > 1152921504606846976) := of_decide_eq_false h1
      refine GoR.phaseK [(3, .gen []), (4, .gen []), (5, .gen [])] [16, 4, 0, 1] [] [(16, .bool (decide ((mo : Int) > 3000))), (4, .bool false), (0, .int .u64 now), (1, .int .u16 mo)] (by kernel_rfl) rfl ak0 ?_
      refine GoR.done ?_
      refine GoQ.pick [16, 4, 0, 1] (S' := [(16, .bool (decide ((mo : Int) > 3000))), (4, .bool false), (0, .int .u64 now), (1, .int .u16 mo)]) (by kernel_rfl) ?_
      exact GoQ.meet1 () (by first | rfl | (simp only [h1, Bool.true_or, Bool.false_or, Bool.true_and, Bool.false_and, Bool.or_true, Bool.or_false, Bool.and_true, Bool.and_false]; done) | (simp [h1]; done)) (St.start W)
  intro _ w2 hs3
  refine GoQ.thn ?_
  refine GoC.cond (t := (decide ((now : Int) > 1152921504606846976)) || (decide ((mo : Int) > 3000))) (by kernel_rfl) (fun h4 => ?_) (fun h4 => ?_)
  · skip
    refine GoC.seq ?_
    refine GoC.regT [3, 3] [.ef 0, .rd 1] (by kernel_rfl) (by kernel_rfl) ?_
    refine GoR.call rfl rfl (by kernel_rfl) (f := 5) (args := #[]) (by kernel_rfl) Try.call5 (works_spec hs3) ?_
    rintro v6 w7 ⟨rfl, hs5⟩
    refine ⟨(opn (by kernel_rfl)), ?_⟩
    refine GoR.phaseK [(1, .gen [])] [4, 0, 1] [] [(4, .bool true), (0, .int .u64 now), (1, .int .u16 mo)] (by kernel_rfl) rfl ak0 ?_
    refine GoR.done ?_
    refine GoQ.thn ?_
    refine GoC.ret ?_
    refine GoQ.skipCR ?_
    refine GoQ.done (.inl rfl) (v := .bool true) (fun a hf => results1 rfl (by kernel_rfl) a hf) ?_
    exact ⟨rfl, hs5.below 0 rfl⟩
  · skip
    have h4a : (decide ((now : Int) > 1152921504606846976)) = false := (Bool.or_eq_false_iff.1 h4).1
    have h4a' : ¬ ((now : Int) > 1152921504606846976) := of_decide_eq_false h4a
    have h4b : (decide ((mo : Int) > 3000)) = false := (Bool.or_eq_false_iff.1 h4).2
    have h4b' : ¬ ((mo : Int) > 3000) := of_decide_eq_false h4b
    refine GoC.skip ?_
    refine GoQ.thn ?_
    refine GoC.seq ?_
    refine GoC.regT [3, 3] [.ef 0, .rd 1] (by kernel_rfl) (by kernel_rfl) ?_
    refine GoR.call rfl rfl (by kernel_rfl) (f := 6) (args := #[]) (by kernel_rfl) Try.call6 (new_spec hs3) ?_
    rintro v9 w10 ⟨bw, rfl, hs8⟩
    refine ⟨(opn (by kernel_rfl)), ?_⟩
    refine GoR.phaseK [(1, .gen [])] [5, 4, 0, 1] [] [(5, .pointer (some ⟨bw, 0, none⟩)), (4, .bool false), (0, .int .u64 now), (1, .int .u16 mo)] (by kernel_rfl) rfl ak0 ?_
    refine GoR.done ?_
    refine GoQ.thn ?_
    refine GoC.seq ?_
    refine GoC.regT [1] [.rd 0] (by kernel_rfl) (by kernel_rfl) ?_
    refine GoR.phaseK [(0, .gen [])] [6, 5, 4, 0, 1] [] [(6, .int .u64 0), (5, .pointer (some ⟨bw, 0, none⟩)), (4, .bool false), (0, .int .u64 now), (1, .int .u16 mo)] (by kernel_rfl) rfl ak0 ?_
    refine GoR.done ?_
    refine GoQ.thn ?_
    refine GoC.seq ?_
    refine GoC.regT [7, 7, 7] [.rd 0, .rd 1, .rd 2] (by kernel_rfl) (by kernel_rfl) ?_
    refine GoR.phaseK [(0, .gen []), (1, .as_ (.int .u64 (now + 16)) (.gen [])), (2, .gen [])] [7, 6, 5, 4, 0, 1] [(1, [.prop (Value.int .u64 (IntKind.u64.wrap (now + 16)) = Value.int .u64 (now + 16))])] [(7, .int .u64 (now + 16)), (6, .int .u64 0), (5, .pointer (some ⟨bw, 0, none⟩)), (4, .bool false), (0, .int .u64 now), (1, .int .u16 mo)] (by kernel_rfl) rfl (ak (okp (u64ok (by omega) (by omega)) ok0) ak0) ?_
    refine GoR.done ?_
    refine GoQ.thn ?_
    refine GoC.seq ?_
    refine GoC.regT [1] [.rd 0] (by kernel_rfl) (by kernel_rfl) ?_
    refine GoR.phaseK [(0, .gen [])] [8, 7, 6, 5, 4, 0, 1] [] [(8, .int .u64 16), (7, .int .u64 (now + 16)), (6, .int .u64 0), (5, .pointer (some ⟨bw, 0, none⟩)), (4, .bool false), (0, .int .u64 now), (1, .int .u16 mo)] (by kernel_rfl) rfl ak0 ?_
    refine GoR.done ?_
    refine GoQ.thn ?_
    refine GoC.seq ?_
    refine GoC.seq ?_
    refine GoC.regT [1] [.rd 0] (by kernel_rfl) (by kernel_rfl) ?_
    refine GoR.phaseK [(0, .gen [])] [9, 8, 7, 6, 5, 4, 0, 1] [] [(9, .int .u64 0), (8, .int .u64 16), (7, .int .u64 (now + 16)), (6, .int .u64 0), (5, .pointer (some ⟨bw, 0, none⟩)), (4, .bool false), (0, .int .u64 now), (1, .int .u16 mo)] (by kernel_rfl) rfl ak0 ?_
    refine GoR.done ?_
    refine GoQ.thn ?_
    refine GoC.block ?_
    refine GoC.loop (T := TG) (fun x => [(0, .int .u64 now), (1, .int .u16 mo), (5, .pointer (some ⟨bw, 0, none⟩)), (6, .int .u64 x.great), (7, .int .u64 x.next), (8, .int .u64 x.span), (9, .int .u64 (x.k : Nat))]) (fun x w => (x.k ≤ mo ∧ TG.inv now x) ∧ St W ((Cel bw (WS.cells x.s) 39) :: (Base W) :: []) w) (fun x => (mo : Int).toNat - x.k) (⟨0, ⟨16, false, 0, 0, 0⟩, 0, now + 16, 16⟩) [0, 1, 5, 6, 7, 8, 9] (by kernel_rfl) ⟨⟨by simp only; omega, by simp [TG.inv]⟩, hs8⟩ ?_
    rintro x w11 ⟨⟨hk, hi⟩, hs12⟩
    refine GoC.slots (S' := [(0, .int .u64 now), (1, .int .u16 mo), (5, .pointer (some ⟨bw, 0, none⟩)), (6, .int .u64 x.great), (7, .int .u64 x.next), (8, .int .u64 x.span), (9, .int .u64 (x.k : Nat))]) rfl ?_
    refine GoC.seq ?_
    refine GoC.seq ?_
    refine GoC.regT [15, 15, 15, 15] [.rd 0, .rd 1, .rd 2, .rd 3] (by kernel_rfl) (by kernel_rfl) ?_
    refine GoR.phaseK [(0, .gen []), (1, .gen []), (2, .as_ (.int .u64 mo) (.gen [])), (3, .gen [])] [24, 0, 1, 5, 6, 7, 8, 9] [(2, [.prop (Value.int .u64 (IntKind.u64.wrap mo) = Value.int .u64 mo)])] [(24, .bool (decide (((x.k : Nat) : Int) < mo))), (0, .int .u64 now), (1, .int .u16 mo), (5, .pointer (some ⟨bw, 0, none⟩)), (6, .int .u64 x.great), (7, .int .u64 x.next), (8, .int .u64 x.span), (9, .int .u64 (x.k : Nat))] (by kernel_rfl) rfl (ak (okp (u64ok (by omega) (by omega)) ok0) ak0) ?_
    refine GoR.done ?_
    refine GoQ.thn ?_
    refine GoC.cond (t := decide (((x.k : Nat) : Int) < mo)) (by kernel_rfl) (fun h13 => ?_) (fun h13 => ?_)
    · skip
      have h13' : ((x.k : Nat) : Int) < mo := of_decide_eq_true h13
      have hlt : x.k < mo := by simpa using h13
      have hc := TG.look hi (by omega) (by omega) (by omega)
      have hsp := hi.2.1
      have hsq := hi.2.2.1
      have hgr := hi.2.2.2.2.1
      have hgs := hi.2.2.2.2.2.1
      have hnx : 0 ≤ x.next ∧ x.next ≤ now + x.k + x.span := by rcases hi.2.2.2.2.2.2 with hq | hq <;> rcases hc with hq2 | hq2 <;> omega
      refine GoC.skip ?_
      refine GoQ.thn ?_
      refine GoC.seq ?_
      refine GoC.block ?_
      refine GoC.seq ?_
      refine GoC.regT [127, 127, 127, 127, 127, 127, 127] [.rd 0, .rd 1, .rd 2, .rd 3, .rd 4, .ef 5, .rd 6] (by kernel_rfl) (by kernel_rfl) ?_
      refine GoR.phase [(0, .gen []), (1, .gen []), (2, .gen []), (3, .as_ (.int .u64 (now + (x.k : Nat))) (.gen [])), (4, .gen [])] [(3, [.prop (Value.int .u64 (IntKind.u64.wrap (now + (x.k : Nat))) = Value.int .u64 (now + (x.k : Nat)))])] [(31, .int .u64 x.great), (30, .int .u64 (now + (x.k : Nat))), (29, .int .u64 (x.k : Nat)), (28, .int .u64 now), (27, .pointer (some ⟨bw, 0, none⟩)), (24, .bool (decide (((x.k : Nat) : Int) < mo))), (0, .int .u64 now), (1, .int .u16 mo), (5, .pointer (some ⟨bw, 0, none⟩)), (6, .int .u64 x.great), (7, .int .u64 x.next), (8, .int .u64 x.span), (9, .int .u64 (x.k : Nat))] (by kernel_rfl) rfl (ak (okp (u64ok (by omega) (by omega)) ok0) ak0) ?_
      refine GoR.call rfl rfl (by kernel_rfl) (f := 8) (args := #[.pointer (some ⟨bw, 0, none⟩), .int .u64 (now + (x.k : Nat)), .bool true, .bool true, .int .u64 0, .int .u64 x.great]) (by kernel_rfl) Try.call8 (look_spec x.s (now + (x.k : Int)) true true 0 x.great (by omega) (by have := hi.1; have := hi.2.1; omega) (by have := hi.1; have := hi.2.2.1; omega) hs12) ?_
      rintro v15 w16 ⟨rfl, hs14⟩
      refine ⟨(opn (by kernel_rfl)), ?_⟩
      refine GoR.phaseK [(6, .gen [])] [10, 0, 1, 5, 6, 7, 8, 9] [] [(10, .int .u64 ((look x.s (now + (x.k : Int)) true true 0 x.great).1)), (0, .int .u64 now), (1, .int .u16 mo), (5, .pointer (some ⟨bw, 0, none⟩)), (6, .int .u64 x.great), (7, .int .u64 x.next), (8, .int .u64 x.span), (9, .int .u64 (x.k : Nat))] (by kernel_rfl) rfl ak0 ?_
      refine GoR.done ?_
      refine GoQ.thn ?_
      refine GoC.seq ?_
      refine GoC.regT [31, 31, 31, 31, 31] [.rd 0, .rd 1, .rd 2, .rd 3, .rd 4] (by kernel_rfl) (by kernel_rfl) ?_
      refine GoR.phaseK [(0, .gen []), (1, .gen []), (2, .as_ (.int .u64 (now + (x.k : Nat))) (.gen [])), (3, .gen []), (4, .gen [])] [37, 10, 0, 1, 5, 6, 7, 8, 9] [(2, [.prop (Value.int .u64 (IntKind.u64.wrap (now + (x.k : Nat))) = Value.int .u64 (now + (x.k : Nat)))])] [(37, .bool (((now + (x.k : Nat)) : Int) == x.next)), (10, .int .u64 ((look x.s (now + (x.k : Int)) true true 0 x.great).1)), (0, .int .u64 now), (1, .int .u16 mo), (5, .pointer (some ⟨bw, 0, none⟩)), (6, .int .u64 x.great), (7, .int .u64 x.next), (8, .int .u64 x.span), (9, .int .u64 (x.k : Nat))] (by kernel_rfl) rfl (ak (okp (u64ok (by omega) (by omega)) ok0) ak0) ?_
      refine GoR.done ?_
      refine GoQ.thn ?_
      refine GoC.cond (t := ((now + (x.k : Nat)) : Int) == x.next) (by kernel_rfl) (fun h17 => ?_) (fun h17 => ?_)
      · skip
        have h17' : (now + (x.k : Nat) : Int) = x.next := by simpa using h17
        have hl := (hc.resolve_right (fun hq => hq.1 (by omega))).2.1
        have hg := (hc.resolve_right (fun hq => hq.1 (by omega))).2.2
        refine GoC.seq ?_
        refine GoC.seq ?_
        refine GoC.regT [15, 15, 15, 15] [.rd 0, .rd 1, .rd 2, .rd 3] (by kernel_rfl) (by kernel_rfl) ?_
        refine GoR.phaseK [(0, .gen []), (1, .gen []), (2, .as_ (.int .u64 (x.great + 1)) (.gen [])), (3, .gen [])] [41, 10, 0, 1, 5, 6, 7, 8, 9] [(2, [.prop (Value.int .u64 (IntKind.u64.wrap (x.great + 1)) = Value.int .u64 (x.great + 1))])] [(41, .bool ((((look x.s (now + (x.k : Int)) true true 0 x.great).1) : Int) != (x.great + 1))), (10, .int .u64 ((look x.s (now + (x.k : Int)) true true 0 x.great).1)), (0, .int .u64 now), (1, .int .u16 mo), (5, .pointer (some ⟨bw, 0, none⟩)), (6, .int .u64 x.great), (7, .int .u64 x.next), (8, .int .u64 x.span), (9, .int .u64 (x.k : Nat))] (by kernel_rfl) rfl (ak (okp (u64ok (by omega) (by omega)) ok0) ak0) ?_
        refine GoR.done ?_
        refine GoQ.thn ?_
        refine GoC.cond (t := (((look x.s (now + (x.k : Int)) true true 0 x.great).1) : Int) != (x.great + 1)) (by kernel_rfl) (fun h18 => ?_) (fun h18 => ?_)
        · skip
          have h18' : ¬ (((look x.s (now + (x.k : Int)) true true 0 x.great).1 : Int) = (x.great + 1)) := by simpa using h18
          exact absurd (by rw [hl]) h18'
        · skip
          have h18' : ((look x.s (now + (x.k : Int)) true true 0 x.great).1 : Int) = (x.great + 1) := by simpa using h18
          refine GoC.skip ?_
          refine GoQ.thn ?_
          refine GoC.seq ?_
          refine GoC.regT [3, 3] [.rd 0, .rd 1] (by kernel_rfl) (by kernel_rfl) ?_
          refine GoR.phaseK [(0, .gen []), (1, .gen [])] [6, 0, 1, 5, 7, 8, 9] [] [(6, .int .u64 ((look x.s (now + (x.k : Int)) true true 0 x.great).1)), (0, .int .u64 now), (1, .int .u16 mo), (5, .pointer (some ⟨bw, 0, none⟩)), (7, .int .u64 x.next), (8, .int .u64 x.span), (9, .int .u64 (x.k : Nat))] (by kernel_rfl) rfl ak0 ?_
          refine GoR.done ?_
          refine GoQ.thn ?_
          refine GoC.seq ?_
          refine GoC.regT [15, 15, 15, 15] [.rd 0, .rd 1, .rd 2, .rd 3] (by kernel_rfl) (by kernel_rfl) ?_
          refine GoR.phaseK [(0, .gen []), (1, .as_ (.int .u64 (2 * x.span)) (.gen [])), (2, .as_ (.int .u64 (min (2 * x.span) 1024)) (.gen [])), (3, .gen [])] [8, 6, 0, 1, 5, 7, 9] [(1, [.prop (Value.int .u64 (IntKind.u64.wrap (2 * x.span)) = Value.int .u64 (2 * x.span))]), (2, [.prop (Value.int .u64 (if 1024 < (2 * x.span) then 1024 else (2 * x.span)) = Value.int .u64 (min (2 * x.span) 1024))])] [(8, .int .u64 (min (2 * x.span) 1024)), (6, .int .u64 ((look x.s (now + (x.k : Int)) true true 0 x.great).1)), (0, .int .u64 now), (1, .int .u16 mo), (5, .pointer (some ⟨bw, 0, none⟩)), (7, .int .u64 x.next), (9, .int .u64 (x.k : Nat))] (by kernel_rfl) rfl (ak (okp (u64ok (by omega) (by omega)) ok0) (ak (okp minok ok0) ak0)) ?_
          refine GoR.done ?_
          refine GoQ.thn ?_
          refine GoC.regT [127, 127, 127, 127, 127, 127, 127] [.rd 0, .rd 1, .rd 2, .rd 3, .rd 4, .rd 5, .rd 6] (by kernel_rfl) (by kernel_rfl) ?_
          refine GoR.phaseK [(0, .gen []), (1, .gen []), (2, .as_ (.int .u64 (now + (x.k : Nat))) (.gen [])), (3, .as_ (.int .u64 ((now + (x.k : Nat)) + 1)) (.gen [])), (4, .gen []), (5, .as_ (.int .u64 (((now + (x.k : Nat)) + 1) + (min (2 * x.span) 1024))) (.gen [])), (6, .gen [])] [7, 8, 6, 0, 1, 5, 9] [(2, [.prop (Value.int .u64 (IntKind.u64.wrap (now + (x.k : Nat))) = Value.int .u64 (now + (x.k : Nat)))]), (3, [.prop (Value.int .u64 (IntKind.u64.wrap ((now + (x.k : Nat)) + 1)) = Value.int .u64 ((now + (x.k : Nat)) + 1))]), (5, [.prop (Value.int .u64 (IntKind.u64.wrap (((now + (x.k : Nat)) + 1) + (min (2 * x.span) 1024))) = Value.int .u64 (((now + (x.k : Nat)) + 1) + (min (2 * x.span) 1024)))])] [(7, .int .u64 (((now + (x.k : Nat)) + 1) + (min (2 * x.span) 1024))), (8, .int .u64 (min (2 * x.span) 1024)), (6, .int .u64 ((look x.s (now + (x.k : Int)) true true 0 x.great).1)), (0, .int .u64 now), (1, .int .u16 mo), (5, .pointer (some ⟨bw, 0, none⟩)), (9, .int .u64 (x.k : Nat))] (by kernel_rfl) rfl (ak (okp (u64ok (by omega) (by omega)) ok0) (ak (okp (u64ok (by omega) (by omega)) ok0) (ak (okp (u64ok (by omega) (by omega)) ok0) ak0))) ?_
          refine GoR.done ?_
          refine GoQ.blkN ?_
          refine GoQ.thn ?_
          refine GoC.regT [7, 7, 7] [.rd 0, .rd 1, .rd 2] (by kernel_rfl) (by kernel_rfl) ?_
          refine GoR.phaseK [(0, .gen []), (1, .as_ (.int .u64 ((x.k : Nat) + 1)) (.gen [])), (2, .gen [])] [9, 7, 8, 6, 0, 1, 5] [(1, [.prop (Value.int .u64 (IntKind.u64.wrap ((x.k : Nat) + 1)) = Value.int .u64 ((x.k : Nat) + 1))])] [(9, .int .u64 ((x.k : Nat) + 1)), (7, .int .u64 (((now + (x.k : Nat)) + 1) + (min (2 * x.span) 1024))), (8, .int .u64 (min (2 * x.span) 1024)), (6, .int .u64 ((look x.s (now + (x.k : Int)) true true 0 x.great).1)), (0, .int .u64 now), (1, .int .u16 mo), (5, .pointer (some ⟨bw, 0, none⟩))] (by kernel_rfl) rfl (ak (okp (u64ok (by omega) (by omega)) ok0) ak0) ?_
          refine GoR.done ?_
          exact GoQ.back (⟨x.k + 1, (look x.s (now + (x.k : Int)) true true 0 x.great).2, (look x.s (now + (x.k : Int)) true true 0 x.great).1, ((now + (x.k : Nat)) + 1) + (min (2 * x.span) 1024), min (2 * x.span) 1024⟩) [0, 1, 5, 6, 7, 8, 9] (by kernel_rfl) (by simp only; omega) ⟨⟨by simp only; omega, by rw [hl]; exact ⟨rfl, by simp only; omega, by simp only; omega, rfl, by simp only; omega, by simp only; omega, .inr ⟨.inr (by simp only; omega), by simp only; omega, by simp only; omega⟩⟩⟩, hs14⟩
      · skip
        have h17' : ¬ ((now + (x.k : Nat) : Int) = x.next) := by simpa using h17
        have hl := (hc.resolve_left (fun hq => h17' (by omega))).2.1
        have hg := (hc.resolve_left (fun hq => h17' (by omega))).2.2
        refine GoC.seq ?_
        refine GoC.regT [3, 3] [.rd 0, .rd 1] (by kernel_rfl) (by kernel_rfl) ?_
        refine GoR.phaseK [(0, .gen []), (1, .gen [])] [53, 0, 1, 5, 6, 7, 8, 9] [] [(53, .bool ((((look x.s (now + (x.k : Int)) true true 0 x.great).1) : Int) != 0)), (0, .int .u64 now), (1, .int .u16 mo), (5, .pointer (some ⟨bw, 0, none⟩)), (6, .int .u64 x.great), (7, .int .u64 x.next), (8, .int .u64 x.span), (9, .int .u64 (x.k : Nat))] (by kernel_rfl) rfl ak0 ?_
        refine GoR.done ?_
        refine GoQ.thn ?_
        refine GoC.cond (t := (((look x.s (now + (x.k : Int)) true true 0 x.great).1) : Int) != 0) (by kernel_rfl) (fun h19 => ?_) (fun h19 => ?_)
        · skip
          have h19' : ¬ (((look x.s (now + (x.k : Int)) true true 0 x.great).1 : Int) = 0) := by simpa using h19
          exact absurd (by rw [hl]) h19'
        · skip
          have h19' : ((look x.s (now + (x.k : Int)) true true 0 x.great).1 : Int) = 0 := by simpa using h19
          refine GoC.skip ?_
          refine GoQ.blkN ?_
          refine GoQ.thn ?_
          refine GoC.regT [7, 7, 7] [.rd 0, .rd 1, .rd 2] (by kernel_rfl) (by kernel_rfl) ?_
          refine GoR.phaseK [(0, .gen []), (1, .as_ (.int .u64 ((x.k : Nat) + 1)) (.gen [])), (2, .gen [])] [9, 0, 1, 5, 6, 7, 8] [(1, [.prop (Value.int .u64 (IntKind.u64.wrap ((x.k : Nat) + 1)) = Value.int .u64 ((x.k : Nat) + 1))])] [(9, .int .u64 ((x.k : Nat) + 1)), (0, .int .u64 now), (1, .int .u16 mo), (5, .pointer (some ⟨bw, 0, none⟩)), (6, .int .u64 x.great), (7, .int .u64 x.next), (8, .int .u64 x.span)] (by kernel_rfl) rfl (ak (okp (u64ok (by omega) (by omega)) ok0) ak0) ?_
          refine GoR.done ?_
          exact GoQ.back (⟨x.k + 1, (look x.s (now + (x.k : Int)) true true 0 x.great).2, x.great, x.next, x.span⟩) [0, 1, 5, 6, 7, 8, 9] (by kernel_rfl) (by simp only; omega) ⟨⟨by simp only; omega, by rw [hl]; exact ⟨rfl, by simp only; omega, by simp only; omega, rfl, by simp only; omega, by simp only; omega, .inl ⟨rfl, rfl, rfl, by simp only; omega, by simp only; omega⟩⟩⟩, hs14⟩
    · skip
      have h13' : ¬ (((x.k : Nat) : Int) < mo) := of_decide_eq_false h13
      refine GoC.exit ?_
      refine GoQ.skipC ?_
      refine GoQ.skipL ?_
      refine GoQ.hit ?_
      refine GoQ.thn ?_
      refine GoC.seq ?_
      refine GoC.regT [3, 3] [.ef 0, .rd 1] (by kernel_rfl) (by kernel_rfl) ?_
      refine GoR.call rfl rfl (by kernel_rfl) (f := 5) (args := #[]) (by kernel_rfl) Try.call5 (works_spec hs12) ?_
      rintro v21 w22 ⟨rfl, hs20⟩
      refine ⟨(opn (by kernel_rfl)), ?_⟩
      refine GoR.phaseK [(1, .gen [])] [4] [] [(4, .bool true)] (by kernel_rfl) rfl ak0 ?_
      refine GoR.done ?_
      refine GoQ.thn ?_
      refine GoC.ret ?_
      refine GoQ.done (.inl rfl) (v := .bool true) (fun a hf => results1 rfl (by kernel_rfl) a hf) ?_
      exact ⟨rfl, hs20.below 1 rfl⟩
set_option maxHeartbeats 400000 in
theorem plays_walk (W : World) (ad : Option Addr) (n c : Nat) (xs : Nat → SV) (hn : n ≤ 9223372036854775807) (hx : ∀ k, 0 ≤ (xs k).now) (hl : RowsAt W ad n 5 (fun k => SV.cells (xs k))) : Calls Try.prog 3 #[.slice ad n c] W (Ret fun v w' => v = .bool true ∧ Below W.heap.size W w') := by
  refine enter (args := [.slice ad n c]) Try.func3 rfl Try.ntmps3 (Nat.le_of_ble_eq_true (by kernel_rfl)) ?_
  refine GoC.slots (S' := [(0, .slice ad n c)]) rfl ?_
  refine GoC.seq ?_
  refine GoC.regT [1] [.rd 0] (by kernel_rfl) (by kernel_rfl) ?_
  refine GoR.phaseK [(0, .gen [])] [2, 0] [] [(2, .bool false), (0, .slice ad n c)] (by kernel_rfl) rfl ak0 ?_
  refine GoR.done ?_
  refine GoQ.thn ?_
  refine GoC.seq ?_
  refine GoC.seq ?_
  refine GoC.regT [7, 7, 7] [.rd 0, .rd 1, .rd 2] (by kernel_rfl) (by kernel_rfl) ?_
  refine GoR.phaseK [(0, .gen []), (1, .gen []), (2, .gen [])] [9, 2, 0] [] [(9, .bool (decide (((n : Nat) : Int) > 200))), (2, .bool false), (0, .slice ad n c)] (by kernel_rfl) rfl ak0 ?_
  refine GoR.done ?_
  refine GoQ.thn ?_
  refine GoC.cond (t := decide (((n : Nat) : Int) > 200)) (by kernel_rfl) (fun h1 => ?_) (fun h1 => ?_)
  · skip
    have h1' : ((n : Nat) : Int) > 200 := of_decide_eq_true h1
    refine GoC.seq ?_
    refine GoC.regT [3, 3] [.ef 0, .rd 1] (by kernel_rfl) (by kernel_rfl) ?_
    refine GoR.call rfl rfl (by kernel_rfl) (f := 5) (args := #[]) (by kernel_rfl) Try.call5 (works_spec (St.start W)) ?_
    rintro v3 w4 ⟨rfl, hs2⟩
    refine ⟨(opn (by kernel_rfl)), ?_⟩
    refine GoR.phaseK [(1, .gen [])] [2, 0] [] [(2, .bool true), (0, .slice ad n c)] (by kernel_rfl) rfl ak0 ?_
    refine GoR.done ?_
    refine GoQ.thn ?_
    refine GoC.ret ?_
    refine GoQ.skipCR ?_
    refine GoQ.done (.inl rfl) (v := .bool true) (fun a hf => results1 rfl (by kernel_rfl) a hf) ?_
    exact ⟨rfl, hs2.below 0 rfl⟩
  · skip
    have h1' : ¬ (((n : Nat) : Int) > 200) := of_decide_eq_false h1
    refine GoC.skip ?_
    refine GoQ.thn ?_
    refine GoC.seq ?_
    refine GoC.regT [3, 3] [.ef 0, .rd 1] (by kernel_rfl) (by kernel_rfl) ?_
    refine GoR.call rfl rfl (by kernel_rfl) (f := 6) (args := #[]) (by kernel_rfl) Try.call6 (new_spec (St.start W)) ?_
    rintro v6 w7 ⟨ba, rfl, hs5⟩
    refine ⟨(opn (by kernel_rfl)), ?_⟩
    refine GoR.phaseK [(1, .gen [])] [3, 2, 0] [] [(3, .pointer (some ⟨ba, 0, none⟩)), (2, .bool false), (0, .slice ad n c)] (by kernel_rfl) rfl ak0 ?_
    refine GoR.done ?_
    refine GoQ.thn ?_
    refine GoC.seq ?_
    refine GoC.regT [3, 3] [.ef 0, .rd 1] (by kernel_rfl) (by kernel_rfl) ?_
    refine GoR.call rfl rfl (by kernel_rfl) (f := 7) (args := #[]) (by kernel_rfl) Try.call7 (rnew_spec hs5) ?_
    rintro v9 w10 ⟨bb, rfl, hs8⟩
    refine ⟨(opn (by kernel_rfl)), ?_⟩
    refine GoR.phaseK [(1, .gen [])] [4, 3, 2, 0] [] [(4, .pointer (some ⟨bb, 0, none⟩)), (3, .pointer (some ⟨ba, 0, none⟩)), (2, .bool false), (0, .slice ad n c)] (by kernel_rfl) rfl ak0 ?_
    refine GoR.done ?_
    refine GoQ.thn ?_
    refine GoC.seq ?_
    refine GoC.seq ?_
    refine GoC.regT [1] [.rd 0] (by kernel_rfl) (by kernel_rfl) ?_
    refine GoR.phaseK [(0, .gen [])] [5, 4, 3, 2, 0] [] [(5, .int .i64 0), (4, .pointer (some ⟨bb, 0, none⟩)), (3, .pointer (some ⟨ba, 0, none⟩)), (2, .bool false), (0, .slice ad n c)] (by kernel_rfl) rfl ak0 ?_
    refine GoR.done ?_
    refine GoQ.thn ?_
    refine GoC.block ?_
    have hs11 : St W ((Cel ba #[.int .u64 16, .bool false, .int .u64 0, .int .u64 0, .int .u64 0] 39) :: (Cel bb #[.int .u64 16, .bool false, .int .u64 0, .int .u64 0, .int .u64 0] 34) :: (Base W) :: []) w10 := ((hs8.pull 0 rfl).pull 1 rfl)
    refine GoC.loop (T := PG) (fun x => [(0, .slice ad n c), (3, .pointer (some ⟨ba, 0, none⟩)), (4, .pointer (some ⟨bb, 0, none⟩)), (5, .int .i64 (x.k : Nat))]) (fun x w => (x.k ≤ n ∧ eqv x.a x.b ∧ 0 ≤ x.a.span ∧ x.a.span ≤ 1024) ∧ St W ((Cel ba (WS.cells x.a) 39) :: (Cel bb (WS.cells x.b) 34) :: (Base W) :: []) w) (fun x => n - x.k) (⟨0, ⟨16, false, 0, 0, 0⟩, ⟨16, false, 0, 0, 0⟩⟩) [0, 3, 4, 5] (by kernel_rfl) ⟨⟨by simp, ⟨rfl, rfl, rfl, rfl, fun _ => rfl⟩, by decide, by decide⟩, hs11⟩ ?_
    rintro x w12 ⟨⟨hk, hp1, hp2⟩, hs13⟩
    refine GoC.slots (S' := [(0, .slice ad n c), (3, .pointer (some ⟨ba, 0, none⟩)), (4, .pointer (some ⟨bb, 0, none⟩)), (5, .int .i64 (x.k : Nat))]) rfl ?_
    refine GoC.seq ?_
    refine GoC.seq ?_
    refine GoC.regT [15, 15, 15, 15] [.rd 0, .rd 1, .rd 2, .rd 3] (by kernel_rfl) (by kernel_rfl) ?_
    refine GoR.phaseK [(0, .gen []), (1, .gen []), (2, .gen []), (3, .gen [])] [16, 0, 3, 4, 5] [] [(16, .bool (decide (((x.k : Nat) : Int) < (n : Nat)))), (0, .slice ad n c), (3, .pointer (some ⟨ba, 0, none⟩)), (4, .pointer (some ⟨bb, 0, none⟩)), (5, .int .i64 (x.k : Nat))] (by kernel_rfl) rfl ak0 ?_
    refine GoR.done ?_
    refine GoQ.thn ?_
    refine GoC.cond (t := decide (((x.k : Nat) : Int) < (n : Nat))) (by kernel_rfl) (fun h14 => ?_) (fun h14 => ?_)
    · skip
      have h14' : ((x.k : Nat) : Int) < (n : Nat) := of_decide_eq_true h14
      have hlt : x.k < n := by omega
      have he := look_eqv hp1 (xs x.k).now (xs x.k).busy (xs x.k).ready (xs x.k).done (xs x.k).great
      obtain ⟨ab, ao, rfl, hrow⟩ := hl (by omega)
      refine GoC.skip ?_
      refine GoQ.thn ?_
      refine GoC.seq ?_
      refine GoC.block ?_
      refine GoC.seq ?_
      refine GoC.regD [0, 0, 0, 6, 14, 30, 0, 0, 192, 448, 960, 0, 0, 6144, 14336, 30720, 0, 0, 196608, 458752, 983040, 0, 0, 6291456, 14680064, 31457280, 67108863, 0, 0, 0, 805306368, 1879048192, 4026531840, 0, 0, 25769803776, 60129542144, 128849018880, 0, 0, 824633720832, 1924145348608, 4123168604160, 0, 0, 26388279066624, 61572651155456, 131941395333120, 0, 0, 844424930131968, 1970324836974592, 4222124650659840, 9007199254740991, 18014398509481983, 36028797018963967, 72057594037927935, 144115188075855871, 72057594037927935, 360287970189639679, 936748722493063167, 2089670227099910143, 4611686018427387903, 9223372036854775807] [.rd 0, .rd 1, .rd 2, .rd 3, .rd 4, .rd 5, .rd 6, .rd 7, .rd 8, .rd 9, .rd 10, .rd 11, .rd 12, .rd 13, .rd 14, .rd 15, .rd 16, .rd 17, .rd 18, .rd 19, .rd 20, .rd 21, .rd 22, .rd 23, .rd 24, .rd 25, .rd 27, .rd 28, .rd 29, .rd 30, .rd 31, .rd 32, .rd 33, .rd 34, .rd 35, .rd 36, .rd 37, .rd 38, .rd 39, .rd 40, .rd 41, .rd 42, .rd 43, .rd 44, .rd 45, .rd 46, .rd 47, .rd 48, .rd 49, .rd 50, .rd 51, .rd 52, .ef 26, .ef 53, .rd 54, .rd 55, .rd 56, .rd 58, .rd 59, .rd 60, .rd 61, .ef 57, .rd 62, .rd 63] (by kernel_rfl) (by kernel_rfl) noPan_body (by kernel_rfl) hs13 ?_
      intro w15 hs16 hw17
      refine GoR.phase [(0, .gen []), (1, .gen []), (2, .gen []), (3, .as_ (.pointer (some ⟨ab, ao + (x.k * 5), none⟩)) .at_), (4, .gen []), (5, .gen [.int .u64 ((xs x.k).now)]), (6, .gen []), (7, .gen []), (8, .as_ (.pointer (some ⟨ab, ao + (x.k * 5), none⟩)) .at_), (9, .gen []), (10, .gen [.bool ((xs x.k).busy)]), (11, .gen []), (12, .gen []), (13, .as_ (.pointer (some ⟨ab, ao + (x.k * 5), none⟩)) .at_), (14, .gen []), (15, .gen [.bool ((xs x.k).ready)]), (16, .gen []), (17, .gen []), (18, .as_ (.pointer (some ⟨ab, ao + (x.k * 5), none⟩)) .at_), (19, .gen []), (20, .gen [.int .u64 ((xs x.k).done)]), (21, .gen []), (22, .gen []), (23, .as_ (.pointer (some ⟨ab, ao + (x.k * 5), none⟩)) .at_), (24, .gen []), (25, .gen [.int .u64 ((xs x.k).great)]), (27, .gen []), (28, .gen []), (29, .gen []), (30, .as_ (.pointer (some ⟨ab, ao + (x.k * 5), none⟩)) .at_), (31, .gen []), (32, .gen [.int .u64 ((xs x.k).now)]), (33, .gen []), (34, .gen []), (35, .as_ (.pointer (some ⟨ab, ao + (x.k * 5), none⟩)) .at_), (36, .gen []), (37, .gen [.bool ((xs x.k).busy)]), (38, .gen []), (39, .gen []), (40, .as_ (.pointer (some ⟨ab, ao + (x.k * 5), none⟩)) .at_), (41, .gen []), (42, .gen [.bool ((xs x.k).ready)]), (43, .gen []), (44, .gen []), (45, .as_ (.pointer (some ⟨ab, ao + (x.k * 5), none⟩)) .at_), (46, .gen []), (47, .gen [.int .u64 ((xs x.k).done)]), (48, .gen []), (49, .gen []), (50, .as_ (.pointer (some ⟨ab, ao + (x.k * 5), none⟩)) .at_), (51, .gen []), (52, .gen [.int .u64 ((xs x.k).great)])] [(3, [.prop (0 ≤ ((x.k : Nat) : Int) ∧ ((x.k : Nat) : Int) < ((n : Nat) : Int)), .prop (Value.pointer (some (Addr.add ⟨ab, ao, none⟩ (Int.toNat (x.k : Nat) * 5))) = Value.pointer (some ⟨ab, ao + (x.k * 5), none⟩))]), (5, [.cell ⟨ab, ao + (x.k * 5), none⟩ (.int .u64 ((xs x.k).now))]), (8, [.prop (0 ≤ ((x.k : Nat) : Int) ∧ ((x.k : Nat) : Int) < ((n : Nat) : Int)), .prop (Value.pointer (some (Addr.add ⟨ab, ao, none⟩ (Int.toNat (x.k : Nat) * 5))) = Value.pointer (some ⟨ab, ao + (x.k * 5), none⟩))]), (10, [.cell ⟨ab, ao + (x.k * 5) + 1, none⟩ (.bool ((xs x.k).busy))]), (13, [.prop (0 ≤ ((x.k : Nat) : Int) ∧ ((x.k : Nat) : Int) < ((n : Nat) : Int)), .prop (Value.pointer (some (Addr.add ⟨ab, ao, none⟩ (Int.toNat (x.k : Nat) * 5))) = Value.pointer (some ⟨ab, ao + (x.k * 5), none⟩))]), (15, [.cell ⟨ab, ao + (x.k * 5) + 2, none⟩ (.bool ((xs x.k).ready))]), (18, [.prop (0 ≤ ((x.k : Nat) : Int) ∧ ((x.k : Nat) : Int) < ((n : Nat) : Int)), .prop (Value.pointer (some (Addr.add ⟨ab, ao, none⟩ (Int.toNat (x.k : Nat) * 5))) = Value.pointer (some ⟨ab, ao + (x.k * 5), none⟩))]), (20, [.cell ⟨ab, ao + (x.k * 5) + 3, none⟩ (.int .u64 ((xs x.k).done))]), (23, [.prop (0 ≤ ((x.k : Nat) : Int) ∧ ((x.k : Nat) : Int) < ((n : Nat) : Int)), .prop (Value.pointer (some (Addr.add ⟨ab, ao, none⟩ (Int.toNat (x.k : Nat) * 5))) = Value.pointer (some ⟨ab, ao + (x.k * 5), none⟩))]), (25, [.cell ⟨ab, ao + (x.k * 5) + 4, none⟩ (.int .u64 ((xs x.k).great))]), (30, [.prop (0 ≤ ((x.k : Nat) : Int) ∧ ((x.k : Nat) : Int) < ((n : Nat) : Int)), .prop (Value.pointer (some (Addr.add ⟨ab, ao, none⟩ (Int.toNat (x.k : Nat) * 5))) = Value.pointer (some ⟨ab, ao + (x.k * 5), none⟩))]), (32, [.cell ⟨ab, ao + (x.k * 5), none⟩ (.int .u64 ((xs x.k).now))]), (35, [.prop (0 ≤ ((x.k : Nat) : Int) ∧ ((x.k : Nat) : Int) < ((n : Nat) : Int)), .prop (Value.pointer (some (Addr.add ⟨ab, ao, none⟩ (Int.toNat (x.k : Nat) * 5))) = Value.pointer (some ⟨ab, ao + (x.k * 5), none⟩))]), (37, [.cell ⟨ab, ao + (x.k * 5) + 1, none⟩ (.bool ((xs x.k).busy))]), (40, [.prop (0 ≤ ((x.k : Nat) : Int) ∧ ((x.k : Nat) : Int) < ((n : Nat) : Int)), .prop (Value.pointer (some (Addr.add ⟨ab, ao, none⟩ (Int.toNat (x.k : Nat) * 5))) = Value.pointer (some ⟨ab, ao + (x.k * 5), none⟩))]), (42, [.cell ⟨ab, ao + (x.k * 5) + 2, none⟩ (.bool ((xs x.k).ready))]), (45, [.prop (0 ≤ ((x.k : Nat) : Int) ∧ ((x.k : Nat) : Int) < ((n : Nat) : Int)), .prop (Value.pointer (some (Addr.add ⟨ab, ao, none⟩ (Int.toNat (x.k : Nat) * 5))) = Value.pointer (some ⟨ab, ao + (x.k * 5), none⟩))]), (47, [.cell ⟨ab, ao + (x.k * 5) + 3, none⟩ (.int .u64 ((xs x.k).done))]), (50, [.prop (0 ≤ ((x.k : Nat) : Int) ∧ ((x.k : Nat) : Int) < ((n : Nat) : Int)), .prop (Value.pointer (some (Addr.add ⟨ab, ao, none⟩ (Int.toNat (x.k : Nat) * 5))) = Value.pointer (some ⟨ab, ao + (x.k * 5), none⟩))]), (52, [.cell ⟨ab, ao + (x.k * 5) + 4, none⟩ (.int .u64 ((xs x.k).great))])] [(71, .int .u64 ((xs x.k).great)), (70, .pointer (some ⟨ab, ao + (x.k * 5) + 4, none⟩)), (69, .pointer (some ⟨ab, ao + (x.k * 5), none⟩)), (68, .int .i64 (x.k : Nat)), (67, .slice (some ⟨ab, ao, none⟩) n c), (66, .int .u64 ((xs x.k).done)), (65, .pointer (some ⟨ab, ao + (x.k * 5) + 3, none⟩)), (64, .pointer (some ⟨ab, ao + (x.k * 5), none⟩)), (63, .int .i64 (x.k : Nat)), (62, .slice (some ⟨ab, ao, none⟩) n c), (61, .bool ((xs x.k).ready)), (60, .pointer (some ⟨ab, ao + (x.k * 5) + 2, none⟩)), (59, .pointer (some ⟨ab, ao + (x.k * 5), none⟩)), (58, .int .i64 (x.k : Nat)), (57, .slice (some ⟨ab, ao, none⟩) n c), (56, .bool ((xs x.k).busy)), (55, .pointer (some ⟨ab, ao + (x.k * 5) + 1, none⟩)), (54, .pointer (some ⟨ab, ao + (x.k * 5), none⟩)), (53, .int .i64 (x.k : Nat)), (52, .slice (some ⟨ab, ao, none⟩) n c), (51, .int .u64 ((xs x.k).now)), (50, .pointer (some ⟨ab, ao + (x.k * 5), none⟩)), (49, .pointer (some ⟨ab, ao + (x.k * 5), none⟩)), (48, .int .i64 (x.k : Nat)), (47, .slice (some ⟨ab, ao, none⟩) n c), (46, .pointer (some ⟨bb, 0, none⟩)), (44, .int .u64 ((xs x.k).great)), (43, .pointer (some ⟨ab, ao + (x.k * 5) + 4, none⟩)), (42, .pointer (some ⟨ab, ao + (x.k * 5), none⟩)), (41, .int .i64 (x.k : Nat)), (40, .slice (some ⟨ab, ao, none⟩) n c), (39, .int .u64 ((xs x.k).done)), (38, .pointer (some ⟨ab, ao + (x.k * 5) + 3, none⟩)), (37, .pointer (some ⟨ab, ao + (x.k * 5), none⟩)), (36, .int .i64 (x.k : Nat)), (35, .slice (some ⟨ab, ao, none⟩) n c), (34, .bool ((xs x.k).ready)), (33, .pointer (some ⟨ab, ao + (x.k * 5) + 2, none⟩)), (32, .pointer (some ⟨ab, ao + (x.k * 5), none⟩)), (31, .int .i64 (x.k : Nat)), (30, .slice (some ⟨ab, ao, none⟩) n c), (29, .bool ((xs x.k).busy)), (28, .pointer (some ⟨ab, ao + (x.k * 5) + 1, none⟩)), (27, .pointer (some ⟨ab, ao + (x.k * 5), none⟩)), (26, .int .i64 (x.k : Nat)), (25, .slice (some ⟨ab, ao, none⟩) n c), (24, .int .u64 ((xs x.k).now)), (23, .pointer (some ⟨ab, ao + (x.k * 5), none⟩)), (22, .pointer (some ⟨ab, ao + (x.k * 5), none⟩)), (21, .int .i64 (x.k : Nat)), (20, .slice (some ⟨ab, ao, none⟩) n c), (19, .pointer (some ⟨ba, 0, none⟩)), (16, .bool (decide (((x.k : Nat) : Int) < (n : Nat)))), (0, .slice (some ⟨ab, ao, none⟩) n c), (3, .pointer (some ⟨ba, 0, none⟩)), (4, .pointer (some ⟨bb, 0, none⟩)), (5, .int .i64 (x.k : Nat))] (by kernel_rfl) rfl (ak (okp (by omega) (okp (ptrAdd _ _ _) ok0)) (ak (okc (hs16.base 2 rfl (hrow x.k hlt 0 (by decide))) ok0) (ak (okp (by omega) (okp (ptrAdd _ _ _) ok0)) (ak (okc (hs16.base 2 rfl (hrow x.k hlt 1 (by decide))) ok0) (ak (okp (by omega) (okp (ptrAdd _ _ _) ok0)) (ak (okc (hs16.base 2 rfl (hrow x.k hlt 2 (by decide))) ok0) (ak (okp (by omega) (okp (ptrAdd _ _ _) ok0)) (ak (okc (hs16.base 2 rfl (hrow x.k hlt 3 (by decide))) ok0) (ak (okp (by omega) (okp (ptrAdd _ _ _) ok0)) (ak (okc (hs16.base 2 rfl (hrow x.k hlt 4 (by decide))) ok0) (ak (okp (by omega) (okp (ptrAdd _ _ _) ok0)) (ak (okc (hs16.base 2 rfl (hrow x.k hlt 0 (by decide))) ok0) (ak (okp (by omega) (okp (ptrAdd _ _ _) ok0)) (ak (okc (hs16.base 2 rfl (hrow x.k hlt 1 (by decide))) ok0) (ak (okp (by omega) (okp (ptrAdd _ _ _) ok0)) (ak (okc (hs16.base 2 rfl (hrow x.k hlt 2 (by decide))) ok0) (ak (okp (by omega) (okp (ptrAdd _ _ _) ok0)) (ak (okc (hs16.base 2 rfl (hrow x.k hlt 3 (by decide))) ok0) (ak (okp (by omega) (okp (ptrAdd _ _ _) ok0)) (ak (okc (hs16.base 2 rfl (hrow x.k hlt 4 (by decide))) ok0) ak0)))))))))))))))))))) ?_
      refine GoR.call rfl rfl (by kernel_rfl) (f := 8) (args := #[.pointer (some ⟨ba, 0, none⟩), .int .u64 ((xs x.k).now), .bool ((xs x.k).busy), .bool ((xs x.k).ready), .int .u64 ((xs x.k).done), .int .u64 ((xs x.k).great)]) (by kernel_rfl) Try.call8 (look_spec x.a (xs x.k).now (xs x.k).busy (xs x.k).ready (xs x.k).done (xs x.k).great (hx x.k) hp2.1 hp2.2 hs16) ?_
      rintro v19 w20 ⟨rfl, hs18⟩
      refine ⟨(opl (n := [.cell ⟨ab, ao + (x.k * 5) + 4, none⟩ (.int .u64 ((xs x.k).great)), .prop (0 ≤ ((x.k : Nat) : Int) ∧ ((x.k : Nat) : Int) < ((n : Nat) : Int)), .prop (Value.pointer (some (Addr.add ⟨ab, ao, none⟩ (Int.toNat (x.k : Nat) * 5))) = Value.pointer (some ⟨ab, ao + (x.k * 5), none⟩)), .cell ⟨ab, ao + (x.k * 5) + 3, none⟩ (.int .u64 ((xs x.k).done)), .prop (0 ≤ ((x.k : Nat) : Int) ∧ ((x.k : Nat) : Int) < ((n : Nat) : Int)), .prop (Value.pointer (some (Addr.add ⟨ab, ao, none⟩ (Int.toNat (x.k : Nat) * 5))) = Value.pointer (some ⟨ab, ao + (x.k * 5), none⟩)), .cell ⟨ab, ao + (x.k * 5) + 2, none⟩ (.bool ((xs x.k).ready)), .prop (0 ≤ ((x.k : Nat) : Int) ∧ ((x.k : Nat) : Int) < ((n : Nat) : Int)), .prop (Value.pointer (some (Addr.add ⟨ab, ao, none⟩ (Int.toNat (x.k : Nat) * 5))) = Value.pointer (some ⟨ab, ao + (x.k * 5), none⟩)), .cell ⟨ab, ao + (x.k * 5) + 1, none⟩ (.bool ((xs x.k).busy)), .prop (0 ≤ ((x.k : Nat) : Int) ∧ ((x.k : Nat) : Int) < ((n : Nat) : Int)), .prop (Value.pointer (some (Addr.add ⟨ab, ao, none⟩ (Int.toNat (x.k : Nat) * 5))) = Value.pointer (some ⟨ab, ao + (x.k * 5), none⟩)), .cell ⟨ab, ao + (x.k * 5), none⟩ (.int .u64 ((xs x.k).now)), .prop (0 ≤ ((x.k : Nat) : Int) ∧ ((x.k : Nat) : Int) < ((n : Nat) : Int)), .prop (Value.pointer (some (Addr.add ⟨ab, ao, none⟩ (Int.toNat (x.k : Nat) * 5))) = Value.pointer (some ⟨ab, ao + (x.k * 5), none⟩))]) (by kernel_rfl) (okc (hs18.base 2 rfl (hrow x.k hlt 4 (by decide))) (okp (by omega) (okp (ptrAdd _ _ _) (okc (hs18.base 2 rfl (hrow x.k hlt 3 (by decide))) (okp (by omega) (okp (ptrAdd _ _ _) (okc (hs18.base 2 rfl (hrow x.k hlt 2 (by decide))) (okp (by omega) (okp (ptrAdd _ _ _) (okc (hs18.base 2 rfl (hrow x.k hlt 1 (by decide))) (okp (by omega) (okp (ptrAdd _ _ _) (okc (hs18.base 2 rfl (hrow x.k hlt 0 (by decide))) (okp (by omega) (okp (ptrAdd _ _ _) ok0)))))))))))))))), ?_⟩
      have hs22 : St W ((Cel bb (WS.cells x.b) 34) :: (Cel ba (WS.cells ((look x.a (xs x.k).now (xs x.k).busy (xs x.k).ready (xs x.k).done (xs x.k).great).2)) 39) :: (Base W) :: []) w20 := (hs18.pull 1 rfl)
      refine GoR.call rfl rfl (by kernel_rfl) (f := 9) (args := #[.pointer (some ⟨bb, 0, none⟩), .int .u64 ((xs x.k).now), .bool ((xs x.k).busy), .bool ((xs x.k).ready), .int .u64 ((xs x.k).done), .int .u64 ((xs x.k).great)]) (by kernel_rfl) Try.call9 (rlook_spec x.b (xs x.k).now (xs x.k).busy (xs x.k).ready (xs x.k).done (xs x.k).great (hx x.k) (by rw [← hp1.1]; exact hp2.1) (by rw [← hp1.1]; exact hp2.2) hs22) ?_
      rintro v23 w24 ⟨rfl, hs21⟩
      refine ⟨(opn (by kernel_rfl)), ?_⟩
      refine GoR.phase [(54, .gen []), (55, .gen [])] [] [(74, .bool ((((look x.a (xs x.k).now (xs x.k).busy (xs x.k).ready (xs x.k).done (xs x.k).great).1) : Int) != ((rlook x.b (xs x.k).now (xs x.k).busy (xs x.k).ready (xs x.k).done (xs x.k).great).1))), (73, .bool ((((look x.a (xs x.k).now (xs x.k).busy (xs x.k).ready (xs x.k).done (xs x.k).great).1) : Int) != ((rlook x.b (xs x.k).now (xs x.k).busy (xs x.k).ready (xs x.k).done (xs x.k).great).1))), (72, .int .u64 ((rlook x.b (xs x.k).now (xs x.k).busy (xs x.k).ready (xs x.k).done (xs x.k).great).1)), (45, .int .u64 ((look x.a (xs x.k).now (xs x.k).busy (xs x.k).ready (xs x.k).done (xs x.k).great).1)), (71, .int .u64 ((xs x.k).great)), (70, .pointer (some ⟨ab, ao + (x.k * 5) + 4, none⟩)), (69, .pointer (some ⟨ab, ao + (x.k * 5), none⟩)), (68, .int .i64 (x.k : Nat)), (67, .slice (some ⟨ab, ao, none⟩) n c), (66, .int .u64 ((xs x.k).done)), (65, .pointer (some ⟨ab, ao + (x.k * 5) + 3, none⟩)), (64, .pointer (some ⟨ab, ao + (x.k * 5), none⟩)), (63, .int .i64 (x.k : Nat)), (62, .slice (some ⟨ab, ao, none⟩) n c), (61, .bool ((xs x.k).ready)), (60, .pointer (some ⟨ab, ao + (x.k * 5) + 2, none⟩)), (59, .pointer (some ⟨ab, ao + (x.k * 5), none⟩)), (58, .int .i64 (x.k : Nat)), (57, .slice (some ⟨ab, ao, none⟩) n c), (56, .bool ((xs x.k).busy)), (55, .pointer (some ⟨ab, ao + (x.k * 5) + 1, none⟩)), (54, .pointer (some ⟨ab, ao + (x.k * 5), none⟩)), (53, .int .i64 (x.k : Nat)), (52, .slice (some ⟨ab, ao, none⟩) n c), (51, .int .u64 ((xs x.k).now)), (50, .pointer (some ⟨ab, ao + (x.k * 5), none⟩)), (49, .pointer (some ⟨ab, ao + (x.k * 5), none⟩)), (48, .int .i64 (x.k : Nat)), (47, .slice (some ⟨ab, ao, none⟩) n c), (46, .pointer (some ⟨bb, 0, none⟩)), (44, .int .u64 ((xs x.k).great)), (43, .pointer (some ⟨ab, ao + (x.k * 5) + 4, none⟩)), (42, .pointer (some ⟨ab, ao + (x.k * 5), none⟩)), (41, .int .i64 (x.k : Nat)), (40, .slice (some ⟨ab, ao, none⟩) n c), (39, .int .u64 ((xs x.k).done)), (38, .pointer (some ⟨ab, ao + (x.k * 5) + 3, none⟩)), (37, .pointer (some ⟨ab, ao + (x.k * 5), none⟩)), (36, .int .i64 (x.k : Nat)), (35, .slice (some ⟨ab, ao, none⟩) n c), (34, .bool ((xs x.k).ready)), (33, .pointer (some ⟨ab, ao + (x.k * 5) + 2, none⟩)), (32, .pointer (some ⟨ab, ao + (x.k * 5), none⟩)), (31, .int .i64 (x.k : Nat)), (30, .slice (some ⟨ab, ao, none⟩) n c), (29, .bool ((xs x.k).busy)), (28, .pointer (some ⟨ab, ao + (x.k * 5) + 1, none⟩)), (27, .pointer (some ⟨ab, ao + (x.k * 5), none⟩)), (26, .int .i64 (x.k : Nat)), (25, .slice (some ⟨ab, ao, none⟩) n c), (24, .int .u64 ((xs x.k).now)), (23, .pointer (some ⟨ab, ao + (x.k * 5), none⟩)), (22, .pointer (some ⟨ab, ao + (x.k * 5), none⟩)), (21, .int .i64 (x.k : Nat)), (20, .slice (some ⟨ab, ao, none⟩) n c), (19, .pointer (some ⟨ba, 0, none⟩)), (16, .bool (decide (((x.k : Nat) : Int) < (n : Nat)))), (0, .slice (some ⟨ab, ao, none⟩) n c), (3, .pointer (some ⟨ba, 0, none⟩)), (4, .pointer (some ⟨bb, 0, none⟩)), (5, .int .i64 (x.k : Nat))] (by kernel_rfl) rfl ak0 ?_
      rcases Bool.eq_false_or_eq_true ((((look x.a (xs x.k).now (xs x.k).busy (xs x.k).ready (xs x.k).done (xs x.k).great).1) : Int) != ((rlook x.b (xs x.k).now (xs x.k).busy (xs x.k).ready (xs x.k).done (xs x.k).great).1)) with h25 | h25
      · skip
        refine GoR.setB 74 true (by decide) (by kernel_rfl) h25 ?_
        have h25' : ¬ (((look x.a (xs x.k).now (xs x.k).busy (xs x.k).ready (xs x.k).done (xs x.k).great).1 : Int) = ((rlook x.b (xs x.k).now (xs x.k).busy (xs x.k).ready (xs x.k).done (xs x.k).great).1)) := by simpa using h25
        exact absurd he.1 h25'
      · skip
        refine GoR.setB 74 false (by decide) (by kernel_rfl) h25 ?_
        have h25' : ((look x.a (xs x.k).now (xs x.k).busy (xs x.k).ready (xs x.k).done (xs x.k).great).1 : Int) = ((rlook x.b (xs x.k).now (xs x.k).busy (xs x.k).ready (xs x.k).done (xs x.k).great).1) := by simpa using h25
        refine GoR.phase [(56, .gen []), (58, .gen []), (59, .gen []), (60, .gen []), (61, .gen [.int .u64 ((rlook x.b (xs x.k).now (xs x.k).busy (xs x.k).ready (xs x.k).done (xs x.k).great).2.span)])] [(61, [.cell ⟨bb, 0, none⟩ (.int .u64 ((rlook x.b (xs x.k).now (xs x.k).busy (xs x.k).ready (xs x.k).done (xs x.k).great).2.span))])] [(80, .int .u64 ((rlook x.b (xs x.k).now (xs x.k).busy (xs x.k).ready (xs x.k).done (xs x.k).great).2.span)), (79, .pointer (some ⟨bb, 0, none⟩)), (78, .pointer (some ⟨bb, 0, none⟩)), (77, .pointer (some ⟨bb, 0, none⟩)), (75, .pointer (some ⟨ba, 0, none⟩)), (74, .bool false), (73, .bool ((((look x.a (xs x.k).now (xs x.k).busy (xs x.k).ready (xs x.k).done (xs x.k).great).1) : Int) != ((rlook x.b (xs x.k).now (xs x.k).busy (xs x.k).ready (xs x.k).done (xs x.k).great).1))), (72, .int .u64 ((rlook x.b (xs x.k).now (xs x.k).busy (xs x.k).ready (xs x.k).done (xs x.k).great).1)), (45, .int .u64 ((look x.a (xs x.k).now (xs x.k).busy (xs x.k).ready (xs x.k).done (xs x.k).great).1)), (71, .int .u64 ((xs x.k).great)), (70, .pointer (some ⟨ab, ao + (x.k * 5) + 4, none⟩)), (69, .pointer (some ⟨ab, ao + (x.k * 5), none⟩)), (68, .int .i64 (x.k : Nat)), (67, .slice (some ⟨ab, ao, none⟩) n c), (66, .int .u64 ((xs x.k).done)), (65, .pointer (some ⟨ab, ao + (x.k * 5) + 3, none⟩)), (64, .pointer (some ⟨ab, ao + (x.k * 5), none⟩)), (63, .int .i64 (x.k : Nat)), (62, .slice (some ⟨ab, ao, none⟩) n c), (61, .bool ((xs x.k).ready)), (60, .pointer (some ⟨ab, ao + (x.k * 5) + 2, none⟩)), (59, .pointer (some ⟨ab, ao + (x.k * 5), none⟩)), (58, .int .i64 (x.k : Nat)), (57, .slice (some ⟨ab, ao, none⟩) n c), (56, .bool ((xs x.k).busy)), (55, .pointer (some ⟨ab, ao + (x.k * 5) + 1, none⟩)), (54, .pointer (some ⟨ab, ao + (x.k * 5), none⟩)), (53, .int .i64 (x.k : Nat)), (52, .slice (some ⟨ab, ao, none⟩) n c), (51, .int .u64 ((xs x.k).now)), (50, .pointer (some ⟨ab, ao + (x.k * 5), none⟩)), (49, .pointer (some ⟨ab, ao + (x.k * 5), none⟩)), (48, .int .i64 (x.k : Nat)), (47, .slice (some ⟨ab, ao, none⟩) n c), (46, .pointer (some ⟨bb, 0, none⟩)), (44, .int .u64 ((xs x.k).great)), (43, .pointer (some ⟨ab, ao + (x.k * 5) + 4, none⟩)), (42, .pointer (some ⟨ab, ao + (x.k * 5), none⟩)), (41, .int .i64 (x.k : Nat)), (40, .slice (some ⟨ab, ao, none⟩) n c), (39, .int .u64 ((xs x.k).done)), (38, .pointer (some ⟨ab, ao + (x.k * 5) + 3, none⟩)), (37, .pointer (some ⟨ab, ao + (x.k * 5), none⟩)), (36, .int .i64 (x.k : Nat)), (35, .slice (some ⟨ab, ao, none⟩) n c), (34, .bool ((xs x.k).ready)), (33, .pointer (some ⟨ab, ao + (x.k * 5) + 2, none⟩)), (32, .pointer (some ⟨ab, ao + (x.k * 5), none⟩)), (31, .int .i64 (x.k : Nat)), (30, .slice (some ⟨ab, ao, none⟩) n c), (29, .bool ((xs x.k).busy)), (28, .pointer (some ⟨ab, ao + (x.k * 5) + 1, none⟩)), (27, .pointer (some ⟨ab, ao + (x.k * 5), none⟩)), (26, .int .i64 (x.k : Nat)), (25, .slice (some ⟨ab, ao, none⟩) n c), (24, .int .u64 ((xs x.k).now)), (23, .pointer (some ⟨ab, ao + (x.k * 5), none⟩)), (22, .pointer (some ⟨ab, ao + (x.k * 5), none⟩)), (21, .int .i64 (x.k : Nat)), (20, .slice (some ⟨ab, ao, none⟩) n c), (19, .pointer (some ⟨ba, 0, none⟩)), (16, .bool (decide (((x.k : Nat) : Int) < (n : Nat)))), (0, .slice (some ⟨ab, ao, none⟩) n c), (3, .pointer (some ⟨ba, 0, none⟩)), (4, .pointer (some ⟨bb, 0, none⟩)), (5, .int .i64 (x.k : Nat))] (by kernel_rfl) rfl (ak (okc (hs21.cell 0 rfl (by kernel_rfl)) ok0) ak0) ?_
        have hs27 : St W ((Cel ba (WS.cells ((look x.a (xs x.k).now (xs x.k).busy (xs x.k).ready (xs x.k).done (xs x.k).great).2)) 39) :: (Cel bb (WS.cells ((rlook x.b (xs x.k).now (xs x.k).busy (xs x.k).ready (xs x.k).done (xs x.k).great).2)) 34) :: (Base W) :: []) w24 := (hs21.pull 1 rfl)
        refine GoR.call rfl rfl (by kernel_rfl) (f := 10) (args := #[.pointer (some ⟨ba, 0, none⟩)]) (by kernel_rfl) Try.call10 (span_spec (look x.a (xs x.k).now (xs x.k).busy (xs x.k).ready (xs x.k).done (xs x.k).great).2 hs27) ?_
        rintro v28 w29 ⟨rfl, hs26⟩
        refine ⟨(opl (n := [.cell ⟨bb, 0, none⟩ (.int .u64 ((rlook x.b (xs x.k).now (xs x.k).busy (xs x.k).ready (xs x.k).done (xs x.k).great).2.span))]) (by kernel_rfl) (okc (hs26.cell 1 rfl (by kernel_rfl)) ok0)), ?_⟩
        refine GoR.phaseK [(62, .gen []), (63, .gen [])] [82, 0, 3, 4, 5] [] [(82, .bool ((((look x.a (xs x.k).now (xs x.k).busy (xs x.k).ready (xs x.k).done (xs x.k).great).2.span) : Int) != ((rlook x.b (xs x.k).now (xs x.k).busy (xs x.k).ready (xs x.k).done (xs x.k).great).2.span))), (0, .slice (some ⟨ab, ao, none⟩) n c), (3, .pointer (some ⟨ba, 0, none⟩)), (4, .pointer (some ⟨bb, 0, none⟩)), (5, .int .i64 (x.k : Nat))] (by kernel_rfl) rfl ak0 ?_
        refine GoR.done ?_
        refine GoQ.thn ?_
        refine GoC.cond (t := (((look x.a (xs x.k).now (xs x.k).busy (xs x.k).ready (xs x.k).done (xs x.k).great).2.span) : Int) != ((rlook x.b (xs x.k).now (xs x.k).busy (xs x.k).ready (xs x.k).done (xs x.k).great).2.span)) (by kernel_rfl) (fun h30 => ?_) (fun h30 => ?_)
        · skip
          have h30' : ¬ (((look x.a (xs x.k).now (xs x.k).busy (xs x.k).ready (xs x.k).done (xs x.k).great).2.span : Int) = ((rlook x.b (xs x.k).now (xs x.k).busy (xs x.k).ready (xs x.k).done (xs x.k).great).2.span)) := by simpa using h30
          exact absurd he.2.1 h30'
        · skip
          have h30' : ((look x.a (xs x.k).now (xs x.k).busy (xs x.k).ready (xs x.k).done (xs x.k).great).2.span : Int) = ((rlook x.b (xs x.k).now (xs x.k).busy (xs x.k).ready (xs x.k).done (xs x.k).great).2.span) := by simpa using h30
          refine GoC.skip ?_
          refine GoQ.blkN ?_
          refine GoQ.thn ?_
          refine GoC.regT [7, 7, 7] [.rd 0, .rd 1, .rd 2] (by kernel_rfl) (by kernel_rfl) ?_
          refine GoR.phaseK [(0, .gen []), (1, .as_ (.int .i64 ((x.k : Nat) + 1)) (.gen [])), (2, .gen [])] [5, 0, 3, 4] [(1, [.prop (Value.int .i64 (IntKind.i64.wrap ((x.k : Nat) + 1)) = Value.int .i64 ((x.k : Nat) + 1))])] [(5, .int .i64 ((x.k : Nat) + 1)), (0, .slice (some ⟨ab, ao, none⟩) n c), (3, .pointer (some ⟨ba, 0, none⟩)), (4, .pointer (some ⟨bb, 0, none⟩))] (by kernel_rfl) rfl (ak (okp (i64ok (by omega) (by omega)) ok0) ak0) ?_
          refine GoR.done ?_
          exact GoQ.back (PG.step x (xs x.k)) [0, 3, 4, 5] (by kernel_rfl) (by simp only [PG.step]; omega) ⟨⟨by simp only [PG.step]; omega, he.2, look_span hp2 _ _ _ _ _⟩, hs26⟩
    · skip
      have h14' : ¬ (((x.k : Nat) : Int) < (n : Nat)) := of_decide_eq_false h14
      refine GoC.exit ?_
      refine GoQ.skipC ?_
      refine GoQ.skipL ?_
      refine GoQ.hit ?_
      refine GoQ.thn ?_
      refine GoC.seq ?_
      refine GoC.regT [1] [.rd 0] (by kernel_rfl) (by kernel_rfl) ?_
      refine GoR.phaseK [(0, .gen [])] [6] [] [(6, .pointer none)] (by kernel_rfl) rfl ak0 ?_
      refine GoR.done ?_
      refine GoQ.thn ?_
      refine GoC.seq ?_
      refine GoC.regT [4095, 4095, 4095, 4095, 4095, 4095, 4095, 4095, 4095, 4095, 4095, 4095] [.rd 0, .ef 1, .rd 2, .rd 3, .rd 4, .ef 5, .rd 6, .rd 7, .rd 8, .ef 9, .rd 10, .rd 11] (by kernel_rfl) (by kernel_rfl) ?_
      refine GoR.phase [(0, .gen [])] [] [(83, .pointer none), (6, .pointer none)] (by kernel_rfl) rfl ak0 ?_
      refine GoR.call rfl rfl (by kernel_rfl) (f := 8) (args := #[.pointer none, .int .u64 1, .bool true, .bool true, .int .u64 1, .int .u64 1]) (by kernel_rfl) Try.call8 (look_nil _ _ _ _ _ hs13) ?_
      rintro v32 w33 ⟨rfl, hs31⟩
      refine ⟨(opn (by kernel_rfl)), ?_⟩
      refine GoR.phase [(2, .gen []), (3, .gen []), (4, .gen [])] [] [(87, .pointer none), (86, .bool true), (85, .bool true), (84, .int .u64 0), (83, .pointer none), (6, .pointer none)] (by kernel_rfl) rfl ak0 ?_
      refine GoR.call rfl rfl (by kernel_rfl) (f := 10) (args := #[.pointer none]) (by kernel_rfl) Try.call10 (span_nil hs31) ?_
      rintro v35 w36 ⟨rfl, hs34⟩
      refine ⟨(opn (by kernel_rfl)), ?_⟩
      refine GoR.phase [(6, .gen []), (7, .gen []), (8, .gen [])] [] [(91, .bool true), (90, .bool true), (89, .bool true), (88, .int .u64 0), (87, .pointer none), (86, .bool true), (85, .bool true), (84, .int .u64 0), (83, .pointer none), (6, .pointer none)] (by kernel_rfl) rfl ak0 ?_
      refine GoR.call rfl rfl (by kernel_rfl) (f := 5) (args := #[]) (by kernel_rfl) Try.call5 (works_spec hs34) ?_
      rintro v38 w39 ⟨rfl, hs37⟩
      refine ⟨(opn (by kernel_rfl)), ?_⟩
      refine GoR.phaseK [(10, .gen []), (11, .gen [])] [2] [] [(2, .bool true)] (by kernel_rfl) rfl ak0 ?_
      refine GoR.done ?_
      refine GoQ.thn ?_
      refine GoC.ret ?_
      refine GoQ.done (.inl rfl) (v := .bool true) (fun a hf => results1 rfl (by kernel_rfl) a hf) ?_
      exact ⟨rfl, hs37.below 2 rfl⟩
end Go.Proofs.Ytikbfcejdmiciaa
