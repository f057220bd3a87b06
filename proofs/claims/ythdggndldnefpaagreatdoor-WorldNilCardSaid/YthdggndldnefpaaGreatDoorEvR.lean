/-
  Ev, part R: slices.Grow at bytes. Conditions: none beside each theorem's own.
-/
import Derived.Test.YthdggndldnefpaaGreatDoorEvM
import Derived.Test.YthdggndldnefpaaGreatDoorSxT
import Derived.Test.YthdggndldnefpaaGreatDoorProg
namespace Go.Proofs.YthdggndldnefpaaGreatDoor
open Go.RowKit Go.Sx Go.Ev
set_option linter.unusedVariables false
set_option linter.unusedSimpArgs false
set_option maxRecDepth 100000

theorem sub0 (base : Option Addr) (c h : Nat) (hb : ∀ ad, base = some ad → ad.spot = none) : Value.slice (if c = 0 then base else base.map (·.add (0 * 1))) (h - 0) (c - 0) = .slice base h c := by
  have : (if c = 0 then base else base.map (·.add (0 * 1))) = base := by
    split
    · rfl
    · cases base with
      | none => rfl
      | some ad => simp [Addr.add]
  rw [this]
  simp

/-- What slices.Grow hands back. -/
def Grown (w0 : World) (L : List Asn) (w : World) (base : Option Addr) (len c n : Nat) (all : List Value) (v : Value) (w' : World) : Prop :=
  (n + len ≤ c ∧ v = .slice base len c ∧ w' = w) ∨ ∃ cap rest, len ≤ cap ∧ cap ≤ 9223372036854775807 ∧ v = .slice (some ⟨w.heap.size, 0, none⟩) len cap ∧ (all ++ rest).length = cap ∧ w' = { w with drawn := w.drawn + 1, heap := w.heap.push (.cells (all ++ rest).toArray 5) }

theorem grow_spec {w0 w : World} {L : List Asn} {base : Option Addr} {len c n : Nat} {all : List Value} (hs : St w0 L w) (hb : ∀ ad, base = some ad → ad.spot = none) (hlc : len ≤ c) (hc : c ≤ 9223372036854775807) (hn : n ≤ 1000000) (hl : len ≤ 1000000) (hall : all.length = c)
    (hf : ∀ w1 : World, w1.heap = w.heap → (Builtin.firstCells 1 c (.slice base c c)).run Tryz.prog w1 = .ok all.toArray w1) :
    Calls Tryz.prog 286 #[.slice base len c, .int .i64 n] w (Ret (Grown w0 L w base len c n all)) := by
  refine enter (args := [.slice base len c, .int .i64 n]) Tryz.func286 rfl Tryz.ntmps286 (Nat.le_of_ble_eq_true (by kernel_rfl)) ?_
  refine GoC.slots (S' := [(0, .slice base len c), (1, .int .i64 n)]) rfl ?_
  refine GoC.seq ?_
  refine GoC.regT [1] (.rd 0 .done) (by kernel_rfl) (by kernel_rfl) ?_
  refine GoR.phaseK [(0, .gen [])] [4, 0, 1] [] [(4, .slice none 0 0), (0, .slice base len c), (1, .int .i64 n)] (by kernel_rfl) rfl ak0 ?_
  refine GoR.done (GoQ.thn (GoC.seq (GoC.seq ?_)))
  refine GoC.regT [3, 3] (.rd 0 (.rd 1 .done)) (by kernel_rfl) (by kernel_rfl) ?_
  refine GoR.phaseK [(0, .gen []), (1, .gen [])] [6, 4, 0, 1] [] [(6, .bool (decide ((n : Int) < 0))), (4, .slice none 0 0), (0, .slice base len c), (1, .int .i64 n)] (by kernel_rfl) rfl ak0 ?_
  refine GoR.done (GoQ.thn ?_)
  refine GoC.cond (t := decide ((n : Int) < 0)) (by kernel_rfl) (fun h1 => ?_) (fun h1 => ?_)
  · exact absurd (of_decide_eq_true h1) (by omega)
  refine GoC.skip (GoQ.thn (GoC.seq (GoC.seq ?_)))
  have e1 : IntKind.i64.wrap ((c : Int) - (len : Int)) = (c : Int) - (len : Int) := i64w (by omega) (by omega)
  have e2 : IntKind.i64.wrap ((n : Int) - ((c : Int) - (len : Int))) = (n : Int) - ((c : Int) - (len : Int)) := i64w (by omega) (by omega)
  refine GoC.regT [] (.rd 0 (.rd 1 (.rd 2 (.rd 3 (.rd 4 (.rd 5 (.rd 6 (.rd 7 .done)))))))) (by kernel_rfl) (by kernel_rfl) ?_
  refine GoR.phaseK [(0, .gen []), (1, .gen []), (2, .gen []), (3, .gen []), (4, .gen []), (5, .as_ (.int .i64 ((c : Int) - (len : Int))) (.gen [])), (6, .as_ (.int .i64 ((n : Int) - ((c : Int) - (len : Int)))) (.gen [])), (7, .gen [])] [1, 0]
    [(5, [.prop (Value.int .i64 (IntKind.i64.wrap ((c : Int) - (len : Int))) = .int .i64 ((c : Int) - (len : Int)))]), (6, [.prop (Value.int .i64 (IntKind.i64.wrap ((n : Int) - ((c : Int) - (len : Int)))) = .int .i64 ((n : Int) - ((c : Int) - (len : Int))))])]
    [(1, .int .i64 ((n : Int) - ((c : Int) - (len : Int)))), (0, .slice base len c)] (by kernel_rfl) rfl (ak (okp (by rw [e1]) ok0) (ak (okp (by rw [e2]) ok0) ak0)) ?_
  refine GoR.done (GoQ.thn (GoC.seq ?_))
  refine GoC.regT [] (.rd 0 (.rd 1 .done)) (by kernel_rfl) (by kernel_rfl) ?_
  refine GoR.phaseK [(0, .gen []), (1, .gen [])] [16, 1, 0] [] [(16, .bool (decide ((n : Int) - ((c : Int) - (len : Int)) > 0))), (1, .int .i64 ((n : Int) - ((c : Int) - (len : Int)))), (0, .slice base len c)] (by kernel_rfl) rfl ak0 ?_
  refine GoR.done (GoQ.thn ?_)
  refine GoC.cond (t := decide ((n : Int) - ((c : Int) - (len : Int)) > 0)) (by kernel_rfl) (fun h2 => ?_) (fun h2 => ?_)
  · have h2' := of_decide_eq_true h2
    obtain ⟨k, hk⟩ : ∃ k : Nat, (k : Int) = (n : Int) - ((c : Int) - (len : Int)) := ⟨(n + len) - c, by omega⟩
    rw [← hk]
    have hkp : 0 < k := by omega
    have hck : c + k = n + len := by omega
    refine GoC.regT [0, 0, 0, 0, 0, 255] (.rd 0 (.rd 1 (.rd 2 (.rd 3 (.rd 4 (.ef 5 (.rd 6 (.rd 7 (.rd 8 (.rd 9 .done)))))))))) (by kernel_rfl) (by kernel_rfl) ?_
    refine GoR.phaseK [(0, .gen []), (1, .gen []), (2, .gen []), (3, .as_ (.slice base c c) (.sub 0 c)), (4, .gen [])] [21, 20, 1, 0]
      [(3, [.prop ((c : Int) = (c : Int)), .prop (((none : Option Operand) = none → 0 = 0) ∧ (some (Operand.tmp 19) = none → c = len) ∧ 0 ≤ c ∧ c ≤ c), .prop (Value.slice (if c = 0 then base else base.map (·.add (0 * 1))) (c - 0) (c - 0) = .slice base c c)])]
      [(21, .int .i64 k), (20, .slice base c c), (1, .int .i64 k), (0, .slice base len c)] (by kernel_rfl) rfl (ak (okp rfl (okp ⟨fun _ => rfl, (fun h => by cases h), Nat.zero_le _, Nat.le_refl _⟩ (okp (sub0 base c c hb) ok0))) ak0) ?_
    obtain ⟨r1, r2⟩ := appendRun (P := Tryz.prog) (w := w) (ts := #[39, 3]) (t := 39) (t' := 3) (e := 5) (ty := 39) (d := .int .i64) (ie := Tryz.t5) (z := .int .u8 0) (base := base) (sLen := c) (sCap := c) (x := .int .i64 k) (n := k) (us := rep k [.int .u8 0]) rfl rfl (by kernel_rfl) (by kernel_rfl) (by kernel_rfl) (by kernel_rfl) (by decide) (by kernel_rfl)
      (by rw [rep_length]; rfl) (by show (c + k) * (1 + 1) ≤ 1000000000; omega) (.inl ⟨rfl, ⟨.i64, rfl⟩, rfl⟩)
    obtain ⟨cap, g1, g2, g3⟩ := r2 (by omega) all (by rw [hall]; exact (Nat.mul_one c).symm) hf
    have g4 : (all ++ rep k [Value.int .u8 0] ++ rep (cap - (c + k)) [Value.int .u8 0]).length = cap := by
      rw [List.length_append, List.length_append, rep_length, rep_length, hall]
      simp only [List.length_cons, List.length_nil]
      omega
    generalize hw2 : ({ w with drawn := w.drawn + 1, heap := w.heap.push (.cells (all ++ rep k [Value.int .u8 0] ++ rep (cap - (c + k)) [Value.int .u8 0]).toArray 5) } : World) = w2
    have g3' : (Builtin.append_ #[39, 3] 39 #[Value.slice base c c, .int .i64 k]).run Tryz.prog w = .ok (.slice (some ⟨w.heap.size, 0, none⟩) (c + k) cap) w2 := by rw [← hw2]; exact g3
    refine GoR.run rfl (by kernel_rfl) (.slice (some ⟨w.heap.size, 0, none⟩) (c + k) cap) w2 (fun a hfit => .inl ?_) (opn (by kernel_rfl)) ?_
    · obtain ⟨cs, hrun⟩ := run_bArgs (P := Tryz.prog) hfit (b := .append) (ts := [39, 3]) (vs := [.slice base c c, .int .i64 k]) (by kernel_rfl) w
      rw [hrun]
      simp only [builtin, Sem.run_bind]
      erw [g3']
      rfl
    · refine GoR.phaseK [(6, .gen []), (7, .gen []), (8, .as_ (.slice (some ⟨w.heap.size, 0, none⟩) len cap) (.sub 0 len)), (9, .gen [])] [0]
        [(8, [.prop ((len : Int) = (len : Int)), .prop (((none : Option Operand) = none → 0 = 0) ∧ (some (Operand.tmp 24) = none → len = c + k) ∧ 0 ≤ len ∧ len ≤ cap), .prop (Value.slice (if cap = 0 then some ⟨w.heap.size, 0, none⟩ else (some (Addr.mk w.heap.size 0 none)).map (·.add (0 * 1))) (len - 0) (cap - 0) = .slice (some ⟨w.heap.size, 0, none⟩) len cap)])]
        [(0, .slice (some ⟨w.heap.size, 0, none⟩) len cap)] (by kernel_rfl) rfl (ak (okp rfl (okp ⟨fun _ => rfl, (fun h => by cases h), Nat.zero_le _, by omega⟩ (okp (sub0 _ cap len (fun ad h => by cases h; rfl)) ok0))) ak0) ?_
      refine GoR.done (GoQ.thn (GoC.seq ?_))
      refine GoC.regT [] (.rd 0 (.rd 1 .done)) (by kernel_rfl) (by kernel_rfl) ?_
      refine GoR.phaseK [(0, .gen []), (1, .gen [])] [4] [] [(4, .slice (some ⟨w.heap.size, 0, none⟩) len cap)] (by kernel_rfl) rfl ak0 ?_
      refine GoR.done (GoQ.thn (GoC.ret ?_))
      refine GoQ.done (.inl rfl) (v := .slice (some ⟨w.heap.size, 0, none⟩) len cap) (fun a hf => results1 rfl (by kernel_rfl) a hf) ?_
      refine .inr ⟨cap, rep k [Value.int .u8 0] ++ rep (cap - (c + k)) [Value.int .u8 0], by omega, g2, rfl, by rw [← List.append_assoc]; exact g4, ?_⟩
      rw [← hw2, List.append_assoc]
  · have h2' := of_decide_eq_false h2
    refine GoC.skip (GoQ.thn (GoC.seq ?_))
    refine GoC.regT [] (.rd 0 (.rd 1 .done)) (by kernel_rfl) (by kernel_rfl) ?_
    refine GoR.phaseK [(0, .gen []), (1, .gen [])] [4] [] [(4, .slice base len c)] (by kernel_rfl) rfl ak0 ?_
    refine GoR.done (GoQ.thn (GoC.ret ?_))
    refine GoQ.done (.inl rfl) (v := .slice base len c) (fun a hf => results1 rfl (by kernel_rfl) a hf) ?_
    exact .inl ⟨by omega, rfl, rfl⟩

/-- The reckoner's word for slices.Grow at bytes. -/
theorem grow_ok {avs : List AV} {m m' : AM} {r : AV} {ν : Nu} {vs : List Value} {w w0 : World} {L : List Asn} (h : growSpec 1 avs m = some (r, m')) (hv : vals ν avs = some vs) (hs : St w0 (Mem ν m :: L) w) :
    Calls Tryz.prog 286 vs.toArray w (Ret fun v w' => ∃ ν', ν.le ν' ∧ r.val ν' = some v ∧ St w0 (Mem ν' m' :: L) w') := by
  have hm := memOK hs
  unfold growSpec at h
  split at h
  · rename_i id off len cap kn n
    obtain ⟨v1, l1, h1, hl1, rfl⟩ := vals_cons.1 hv
    obtain ⟨v2, l2, h2, hl2, rfl⟩ := vals_cons.1 hl1
    simp only [vals, Option.some.injEq] at hl2
    subst hl2
    simp only [AV.val, Option.some.injEq] at h2
    subst h2
    cases kn with
    | true => cases h
    | false =>
      simp only at h
      cases hb : (Nat.beq off 0 && Nat.beq cap 0 && Nat.ble n 1000000 && Nat.ble len 1000000) with
      | false => rw [hb] at h; cases h
      | true =>
        rw [hb] at h
        simp only [Bool.and_eq_true] at hb
        obtain ⟨⟨⟨q1, q2⟩, q3⟩, q4⟩ := hb
        obtain rfl := Nat.eq_of_beq_eq_true q1
        obtain rfl := Nat.eq_of_beq_eq_true q2
        have q3 := ble_true q3
        have q4 := ble_true q4
        simp only [cond_true] at h
        obtain ⟨p, c, hp, rfl, hlc, -, k2⟩ := sl_val h1
        have hcp : c = p.2 := by have := k2 rfl; omega
        split at h
        · rename_i cs z hg
          cases hz : (Nat.beq z 1 && Nat.beq cs.length len) with
          | false => rw [hz] at h; cases h
          | true =>
            rw [hz] at h
            simp only [Bool.and_eq_true] at hz
            obtain rfl := Nat.eq_of_beq_eq_true hz.1
            have hcl := Nat.eq_of_beq_eq_true hz.2
            simp only [cond_true, Option.some.injEq, growA, Prod.mk.injEq] at h
            obtain ⟨rfl, rfl⟩ := h
            obtain ⟨p', o', h5, h6, us, rest, T, fr, h7, rfl, h8, h9, h10⟩ := hm.at_ id _ hg
            rw [hp] at h5
            cases h5
            have lu := vals_length h7
            have hall : (us ++ rest).length = c := by rw [h8, hcp, Nat.mul_one]
            refine Calls.ret (grow_spec hs (fun ad h => by cases h; rfl) hlc (by rw [hcp]; exact h10) q3 q4 hall ?_) ?_
            · intro w1 hw
              simp only [Builtin.firstCells, loadCells]
              refine run_loadCells0 _ _ (by simpa using hall) fun i hi => ?_
              rw [add_mk, Nat.zero_add]
              simp only [World.cell?, hw, h6]
              simp
            · rintro v w' (⟨-, rfl, e0⟩ | ⟨cap', rest', e1, e2, rfl, e3, rfl⟩)
              · obtain ⟨j1, j2⟩ := St.mMove hs hg hp _ (blk' := .buf cs 1) ⟨us, rest, T, fr, vals_mono (Nu.le_add (hm.fresh _ (Nat.le_refl _))) _ h7, rfl, h8, h9, h10⟩
                refine ⟨_, j2, slU_mk (Nu.add_self _ _ _) hlc (by omega), ?_⟩
                have hsame : ({ w with heap := w.heap.setIfInBounds p.1 (.cells (us ++ rest).toArray T fr) } : World) = w := by
                  have : w.heap.setIfInBounds p.1 (.cells (us ++ rest).toArray T fr) = w.heap := by
                    apply Array.ext_getElem?
                    intro k
                    rw [Array.getElem?_setIfInBounds]
                    split
                    · rename_i hk; subst hk; split
                      · exact h6.symm
                      · rename_i hge; rw [Array.getElem?_eq_none (by omega)]
                    · rfl
                  rw [this]
                rw [hsame] at j1
                rw [e0]
                exact j1
              · have hdr : St w0 (Mem ν m :: L) { w with drawn := w.drawn + 1 } := hs.drew
                obtain ⟨j1, j2⟩ := newBuf (St.mDel hdr id) h7 5 (z := 1) (cap := cap') (rest := rest ++ rest') (by rw [← List.append_assoc, e3, Nat.mul_one]) (0, 0) (fun i _ h => by simp at h) e2
                refine ⟨_, j2, slU_mk (Nu.add_self _ _ _) e1 (by simp), ?_⟩
                rw [← List.append_assoc] at j1
                exact j1
        · cases h
  · rename_i n
    obtain ⟨v1, l1, h1, hl1, rfl⟩ := vals_cons.1 hv
    obtain ⟨v2, l2, h2, hl2, rfl⟩ := vals_cons.1 hl1
    simp only [vals, Option.some.injEq] at hl2
    subst hl2
    simp only [AV.val, Option.some.injEq] at h1 h2
    subst h1 h2
    cases hb : (Nat.ble n 1000000 && Nat.ble 1 n) with
    | false => rw [hb] at h; cases h
    | true =>
      rw [hb] at h
      simp only [Bool.and_eq_true] at hb
      have q1 := ble_true hb.1
      have q2 := ble_true hb.2
      simp only [cond_true, Option.some.injEq, growA, Prod.mk.injEq] at h
      obtain ⟨rfl, rfl⟩ := h
      refine Calls.ret (grow_spec (all := []) (n := n) (len := 0) (c := 0) (base := none) hs (fun ad h => by cases h) (Nat.le_refl _) (by omega) q1 (by omega) rfl (fun w1 _ => by simp [Builtin.firstCells])) ?_
      rintro v w' (⟨h0, -, -⟩ | ⟨cap', rest', e1, e2, rfl, e3, rfl⟩)
      · omega
      · have hdr : St w0 (Mem ν m :: L) { w with drawn := w.drawn + 1 } := hs.drew
        obtain ⟨j1, j2⟩ := newBuf hdr (cs := []) (us := []) rfl 5 (z := 1) (cap := cap') (rest := rest') (by rw [e3, Nat.mul_one]) (0, 0) (fun i _ h => by simp at h) e2
        exact ⟨_, j2, slU_mk (Nu.add_self _ _ _) e1 (by simp), j1⟩
  · cases h
end Go.Proofs.YthdggndldnefpaaGreatDoor
