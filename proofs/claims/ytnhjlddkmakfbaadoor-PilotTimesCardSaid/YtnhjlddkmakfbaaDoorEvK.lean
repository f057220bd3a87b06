/-
  Ev, part K: append, copy, delete, clear, conversions. Proved once, for any program. Conditions: none beside each theorem's own.
-/
import Derived.Test.YtnhjlddkmakfbaaDoorEvI
import Derived.Laws.Append
namespace Go.Ev
open Go.Sx
set_option linter.unusedVariables false
set_option linter.unusedSimpArgs false

theorem take_over {α : Type} : ∀ (n : Nat) (us l : List α), n + us.length ≤ l.length → splice n us l = l.take n ++ us ++ l.drop (n + us.length)
  | 0, [], l, _ => by simp [splice, over]
  | 0, u :: us, [], h => by simp at h
  | 0, u :: us, x :: l, h => by
    have := take_over 0 us l (by simpa using h)
    simp only [splice, Nat.zero_add, List.take_zero, List.nil_append, over] at this ⊢
    rw [this]
    simp
  | n + 1, us, [], h => by simp at h
  | n + 1, us, x :: l, h => by
    have := take_over n us l (by simp at h; omega)
    simp only [splice, this]
    rw [show n + 1 + us.length = (n + us.length) + 1 from by omega]
    simp

section
variable {P : Program} {G : Nat → Option (List Value)} {ν : Nu} {N : Nat} {S : AE} {a : Act} {m m' : AM} {w w0 : World} {L : List Asn}

/-- What a slice or a string reads. -/
theorem readsA_spec (hm : MemOK ν m w) {size n : Nat} {x : AV} {l : List AV} (h : readsA m size n x = some l) {v : Value} (hx : x.val ν = some v) :
    ∃ us, vals ν l = some us ∧ us.length = n * size ∧ ∀ w1 : World, w1.heap = w.heap → (Builtin.firstCells size n v).run P w1 = .ok us.toArray w1 := by
  unfold readsA at h
  split at h
  · rename_i id off len cap kn
    split at h
    · rename_i cs hc
      obtain ⟨p, vs, rest, T, fr, h1, h2, h3, h4⟩ := cellsAt_spec hm hc
      obtain ⟨p', c, hp', rfl, _⟩ := sl_val hx
      rw [h1] at hp'
      cases hp'
      obtain ⟨h5, h6⟩ := vals_cut h h2
      have hlen : ((vs.drop off).take (n * size)).length = n * size := by simp only [List.length_take, List.length_drop]; omega
      refine ⟨_, h5, hlen, fun w1 hw => ?_⟩
      simp only [Builtin.firstCells, loadCells]
      refine run_loadCells0 _ _ (by simpa using hlen) fun i hi => ?_
      have hi' : i < n * size := by simpa [hlen] using hi
      rw [add_mk, cell_of (w := w1) (by rw [hw]; exact h3) (by omega)]
      simp only [List.getElem?_toArray]
      rw [List.getElem?_take, if_pos hi', List.getElem?_drop]
    · cases h
  · obtain ⟨p, off, c, _, rfl⟩ := se_val hx
    cases hn : Nat.beq n 0 with
    | false => rw [hn] at h; cases h
    | true =>
      rw [hn] at h
      obtain rfl := Nat.eq_of_beq_eq_true hn
      simp only [cond_true, Option.some.injEq] at h
      subst h
      exact ⟨[], rfl, by simp, fun w1 _ => by simp [Builtin.firstCells, loadCells, loadCellsFrom]⟩
  · simp only [AV.val, Option.some.injEq] at hx
    subst hx
    cases hn : Nat.beq n 0 with
    | false => rw [hn] at h; cases h
    | true =>
      rw [hn] at h
      obtain rfl := Nat.eq_of_beq_eq_true hn
      simp only [cond_true, Option.some.injEq] at h
      subst h
      exact ⟨[], rfl, by simp, fun w1 _ => by simp [Builtin.firstCells]⟩
  · rename_i s
    simp only [AV.val, Option.some.injEq] at hx
    subst hx
    cases hn : Nat.beq size 1 with
    | false => rw [hn] at h; cases h
    | true =>
      rw [hn] at h
      obtain rfl := Nat.eq_of_beq_eq_true hn
      simp only [cond_true] at h
      split at h
      · rename_i hle
        simp only [Option.some.injEq] at h
        subst h
        have key : ∀ l : List UInt8, vals ν (l.map fun b => AV.num .u8 b.toNat) = some (l.map fun b => Value.int .u8 (b.toNat : Int)) := by
          intro l
          induction l with
          | nil => rfl
          | cons b l ih => exact vals_cons_mk rfl ih
        have hsz : s.data.toList.length = s.size := Array.length_toList
        have hle := of_decide_eq_true hle
        refine ⟨_, key _, by (rw [List.length_map, List.length_take, hsz, Nat.mul_one]; exact Nat.min_eq_left hle), fun w1 _ => ?_⟩
        simp only [Builtin.firstCells, Sem.run_pure]
        congr 1
        apply Array.ext'
        simp [ByteArray.toList_eq, ByteArray.data_extract]
      · cases h
  · cases h

theorem lenA_spec {x : AV} {n : Nat} {v : Value} (h : lenA x = some n) (hx : x.val ν = some v) (w : World) : (Builtin.lenOf v).run P w = .ok n w := by
  unfold lenA at h
  split at h
  · obtain ⟨p, c, _, rfl, _⟩ := sl_val hx; cases h; rfl
  · obtain ⟨p, _, c, _, rfl⟩ := se_val hx; cases h; rfl
  · simp only [AV.val, Option.some.injEq] at hx; subst hx; cases h; rfl
  · simp only [AV.val, Option.some.injEq] at hx; subst hx; cases h; rfl
  · cases h

theorem run_newRow (e : TypeId) (cs : Array Value) (w1 : World) : (newRow e cs).run P w1 = .ok ⟨w1.heap.size, 0, none⟩ { w1 with heap := w1.heap.push (.cells cs e) } := rfl

/-! ### append -/
/-- What is appended, as a run (the words of append's own text). -/
theorem appendRun {ts : Array TypeId} {t t' e ty : TypeId} {d : TypeDesc} {ie : TypeInfo} {z : Value} {base : Option Addr} {sLen sCap : Nat} {x : Value} {n : Nat} {us : List Value}
    (h0 : ts[0]? = some t) (h1 : ts[1]? = some t') (hu : P.underlying t = some (.slice e)) (hu' : P.underlying t' = some d) (hi : P.info? e = some ie) (hz : ie.zero = some z)
    (hpos : 0 < ie.size) (hzs : z.cells.size = ie.size) (hlen : us.length = n * ie.size) (hbig : (sLen + n) * (ie.bytes + 1) ≤ 1000000000)
    (hx : (isIntT (some d) = true ∧ (∃ k, x = .int k (n : Int)) ∧ us = rep n z.cells.toList) ∨
      (isIntT (some d) = false ∧ (∀ w1 : World, (Builtin.lenOf x).run P w1 = .ok n w1) ∧ ∀ w1 : World, w1.heap = w.heap → (Builtin.firstCells ie.size n x).run P w1 = .ok us.toArray w1)) :
    (sLen + n ≤ sCap → (Builtin.append_ ts ty #[.slice base sLen sCap, x]).run P w = ((match base with
      | some ad => storeCells (ad.add (sLen * ie.size)) us
      | none => pure ()).run P w).andThen fun _ w' => .ok (.slice base (sLen + n) sCap) w') ∧
    (sCap < sLen + n → ∀ olds : List Value, olds.length = sLen * ie.size → (∀ w1 : World, w1.heap = w.heap → (Builtin.firstCells ie.size sLen (.slice base sLen sCap)).run P w1 = .ok olds.toArray w1) →
      ∃ cap, sLen + n ≤ cap ∧ cap ≤ 9223372036854775807 ∧ (Builtin.append_ ts ty #[.slice base sLen sCap, x]).run P w = .ok (.slice (some ⟨w.heap.size, 0, none⟩) (sLen + n) cap)
        { w with drawn := w.drawn + 1, heap := w.heap.push (.cells (olds ++ us ++ rep (cap - (sLen + n)) z.cells.toList).toArray e) }) := by
  have hb1 : sLen + n ≤ 1000000000 := Nat.le_trans (Nat.le_mul_of_pos_right _ (by omega)) hbig
  have hb2 : (sLen + n) * ie.bytes ≤ 1000000000 := Nat.le_trans (Nat.mul_le_mul_left _ (by omega)) hbig
  have hn2 : n * ie.bytes ≤ 1000000000 := Nat.le_trans (Nat.mul_le_mul_right _ (by omega)) hb2
  have ask : ∀ b w, (askRoom b).run P w = .ok () w := by
    intro b w
    unfold askRoom
    split <;> simp [mark, Sem.run]
  have hzc : ∀ k, Builtin.zeroCells z.cells k = (rep k z.cells.toList).toArray := fun k => zeroCells_eq k (by omega)
  rcases hx with ⟨hint, ⟨k, rfl⟩, rfl⟩ | ⟨hint, hlo, hfc⟩
  · obtain ⟨k', rfl⟩ : ∃ k', d = .int k' := by
      cases d <;> first | exact ⟨_, rfl⟩ | cases hint
    have w1 : IntKind.i64.wrap (n : Int) = (n : Int) := i64w (by omega) (by omega)
    have t1 : ¬ ((n : Int) < 0) := by omega
    have t2 : ¬ ((n : Int) * (ie.bytes : Int) > 2 ^ 48) := by
      rw [← Int.natCast_mul]; omega
    have hmatch : (TypeDesc.int k' matches .int _) = true := rfl
    have t2' : ¬ (281474976710656 < (n : Int) * (ie.bytes : Int)) := by
      rw [← Int.natCast_mul]; omega
    constructor
    · intro hfit
      by_cases hz0 : n * ie.size = 0
      · have hn0 : n = 0 := by
          rcases Nat.mul_eq_zero.1 hz0 with h | h
          · exact h
          · omega
        simp [Builtin.append_, h0, h1, run_underlying hu, run_underlying hu', sizeOf, typeInfo, hi, asInt, asIntOf, w1, t1, t2', hfit, hz0]
        cases base <;> simp [hn0, rep, storeCells]
      · simp [Builtin.append_, h0, h1, run_underlying hu, run_underlying hu', sizeOf, typeInfo, zeroValue, hi, hz, asInt, asIntOf, w1, t1, t2', hfit, hz0, hzc]
        cases base <;> simp
    · intro hno olds hol hold
      have hns : ¬ (sLen + n ≤ sCap) := by omega
      have hnc : Builtin.nextslicecap (sLen + n) sCap * ie.bytes ≤ 281474976710656 := growslice_fits hno (by omega)
      have hnc' : ¬ (281474976710656 < Builtin.nextslicecap (sLen + n) sCap * ie.bytes) := by omega
      have hmx : ¬ (9223372036854775807 < (sLen : Int) + (n : Int)) := by omega
      refine ⟨grownCap w (sLen + n) sCap e, grownCap_ge w (sLen + n) sCap e, grownCap_le_maxLen w (sLen + n) sCap e (by simp only [maxLen]; omega), ?_⟩
      by_cases hz0 : n * ie.size = 0
      · have hn0 : n = 0 := by
          rcases Nat.mul_eq_zero.1 hz0 with h | h
          · exact h
          · omega
        simp [Builtin.append_, h0, h1, run_underlying hu, run_underlying hu', sizeOf, typeInfo, zeroValue, hi, hz, asInt, asIntOf, w1, t1, t2', hns, hz0, hzc, hnc', hmx, Question.forced, ask, hold w.drew rfl]
        have hr0 : rep n z.cells.toList = [] := by rw [hn0]; rfl
        simp only [run_newRow, Result.andThen_ok, List.append_assoc, hr0, List.nil_append]
        rfl
      · simp [Builtin.append_, h0, h1, run_underlying hu, run_underlying hu', sizeOf, typeInfo, zeroValue, hi, hz, asInt, asIntOf, w1, t1, t2', hns, hz0, hzc, hnc', hmx, Question.forced, ask, hold w.drew rfl]
        simp only [run_newRow, Result.andThen_ok, List.append_assoc]
        rfl
  · have hint2 : ∀ k, d ≠ .int k := fun k e => by rw [e] at hint; cases hint
    have hm : (match d with | .int _ => true | _ => false) = false := by cases d <;> first | rfl | exact absurd rfl (hint2 _)
    constructor
    · intro hfit
      simp [Builtin.append_, h0, h1, run_underlying hu, run_underlying hu', sizeOf, typeInfo, hi, hm, hlo, hfit, hfc w rfl]
      cases base <;> simp
    · intro hno olds hol hold
      have hns : ¬ (sLen + n ≤ sCap) := by omega
      have hnc : Builtin.nextslicecap (sLen + n) sCap * ie.bytes ≤ 281474976710656 := growslice_fits hno (by omega)
      have hnc' : ¬ (281474976710656 < Builtin.nextslicecap (sLen + n) sCap * ie.bytes) := by omega
      have hmx : ¬ (9223372036854775807 < (sLen : Int) + (n : Int)) := by omega
      refine ⟨grownCap w (sLen + n) sCap e, grownCap_ge w (sLen + n) sCap e, grownCap_le_maxLen w (sLen + n) sCap e (by simp only [maxLen]; omega), ?_⟩
      simp [Builtin.append_, h0, h1, run_underlying hu, run_underlying hu', sizeOf, typeInfo, zeroValue, hi, hz, hm, hlo, hns, hzc, hnc', hmx, Question.forced, ask, hold w.drew rfl, hfc w.drew rfl]
      simp only [run_newRow, Result.andThen_ok, List.append_assoc]
      rfl

theorem rep_all {z : List AV} (h : onesA z = true) : ∀ n, onesA (rep n z) = true
  | 0 => rfl
  | n + 1 => by rw [rep, onesA_append, h, rep_all h n]; rfl

theorem mem_del_next (m : AM) (id : Nat) : (m.del id).next = m.next := rfl

/-- append, so far as names tell it. -/
theorem appTo_sound (hs : St w0 (Mem ν m :: L) w) {ts : Array TypeId} {t t' e ty : TypeId} {d : TypeDesc} {ie : TypeInfo} {z : Value} {x : Value} {s av : AV} {sv : Value} {n : Nat} {news : List AV} {us : List Value}
    (h0 : ts[0]? = some t) (h1 : ts[1]? = some t') (hu : P.underlying t = some (.slice e)) (hu' : P.underlying t' = some d) (hi : P.info? e = some ie) (hz : ie.zero = some z)
    (hpos : 0 < ie.size) (hzs : z.cells.size = ie.size) (hn : vals ν news = some us) (hone : onesA news = true) (hlen : us.length = n * ie.size) (hsv : s.val ν = some sv)
    (hx : (isIntT (some d) = true ∧ (∃ k, x = .int k (n : Int)) ∧ us = rep n z.cells.toList) ∨
      (isIntT (some d) = false ∧ (∀ w1 : World, (Builtin.lenOf x).run P w1 = .ok n w1) ∧ ∀ w1 : World, w1.heap = w.heap → (Builtin.firstCells ie.size n x).run P w1 = .ok us.toArray w1))
    (h : appTo m ie.size ie.bytes s n news = some (av, m')) :
    ∃ v ν' w', ν.le ν' ∧ av.val ν' = some v ∧ St w0 (Mem ν' m' :: L) w' ∧ (Builtin.append_ ts ty #[sv, x]).run P w = .ok v w' := by
  have hm := memOK hs
  have drew : ∀ {A : List Asn}, St w0 A w → St w0 A { w with drawn := w.drawn + 1 } := fun h => h.drew
  unfold appTo at h
  split at h
  · -- a nil slice
    simp only [AV.val, Option.some.injEq] at hsv
    subst hsv
    cases hb : Nat.ble (n * (ie.bytes + 1)) 1000000000 with
    | false => rw [hb] at h; cases h
    | true =>
      rw [hb] at h
      have hb := ble_true hb
      simp only [cond_true] at h
      obtain ⟨r1, r2⟩ := appendRun (P := P) (ty := ty) (base := none) (sLen := 0) (sCap := 0) h0 h1 hu hu' hi hz hpos hzs hlen (by simpa using hb) hx
      cases hn0 : Nat.beq n 0 with
      | true =>
        rw [hn0] at h
        have := Nat.eq_of_beq_eq_true hn0
        subst this
        simp only [cond_true, Option.some.injEq, Prod.mk.injEq] at h
        obtain ⟨rfl, rfl⟩ := h
        refine ⟨_, ν, w, Nu.le_refl ν, rfl, hs, ?_⟩
        rw [r1 (Nat.le_refl _)]
        simp
      | false =>
        rw [hn0] at h
        have hne := Nat.ne_of_beq_eq_false hn0
        simp only [cond_false, Option.some.injEq] at h
        obtain ⟨cap, hc, hcm, hr⟩ := r2 (by omega) [] (by simp) (fun w1 _ => by simp [Builtin.firstCells])
        simp only [List.nil_append, Nat.zero_add] at hr hc
        have hl2 : (us ++ rep (cap - n) z.cells.toList).length = cap * ie.size := by
          rw [List.length_append, rep_length, hlen, Array.length_toList, hzs, ← Nat.add_mul]
          congr 1; omega
        obtain ⟨k1, k2⟩ := newBuf (drew hs) hn e (z := ie.size) hl2 (0, 0) (fun i _ h => by simp at h) hcm
        simp only [growA, Prod.mk.injEq] at h
        obtain ⟨rfl, rfl⟩ := h
        refine ⟨_, _, _, k2, slU_mk (Nu.add_self _ _ _) hc (by simp), k1, ?_⟩
        rw [hr]
  · rename_i id off len cap kn
    obtain ⟨p, c, hp, rfl, hlc, k1, k2⟩ := sl_val hsv
    cases hb : Nat.ble ((len + n) * (ie.bytes + 1)) 1000000000 with
    | false => rw [hb] at h; cases h
    | true =>
      rw [hb] at h
      have hb := ble_true hb
      simp only [cond_true] at h
      obtain ⟨r1, r2⟩ := appendRun (P := P) (ty := ty) (base := some ⟨p.1, off, none⟩) (sLen := len) (sCap := c) h0 h1 hu hu' hi hz hpos hzs hlen hb hx
      cases kn with
      | false =>
        simp only at h
        split at h
        · rename_i cs z' hg
          cases hb2 : (Nat.beq z' ie.size && Nat.beq off 0 && Nat.beq cap 0 && Nat.ble (len * ie.size) cs.length) with
          | false => rw [hb2] at h; cases h
          | true =>
            rw [hb2] at h
            simp only [Bool.and_eq_true] at hb2
            obtain ⟨⟨⟨q1, q2⟩, q3⟩, q4⟩ := hb2
            obtain rfl := Nat.eq_of_beq_eq_true q1
            obtain rfl := Nat.eq_of_beq_eq_true q2
            obtain rfl := Nat.eq_of_beq_eq_true q3
            have q4 := ble_true q4
            have hcp : c = p.2 := by have := k2 rfl; omega
            simp only [cond_true, Option.some.injEq, growA, Prod.mk.injEq] at h
            obtain ⟨rfl, rfl⟩ := h
            obtain ⟨p', o', h5, h6, vs, rest, T, fr, h7, rfl, h8, h9⟩ := hm.at_ id _ hg
            rw [hp] at h5
            cases h5
            have lv := vals_length h7
            have holdv := vals_take (len * ie.size) h7
            have hnew := vals_append holdv hn
            by_cases hfit : len + n ≤ c
            · -- there is room
              have hfit2 : len * ie.size + us.length ≤ (vs ++ rest).length := by
                rw [h8, hlen, ← Nat.add_mul, ← hcp]
                exact Nat.mul_le_mul_right _ hfit
              have hst := run_storeCells (P := P) us w (vs ++ rest).toArray fr (len * ie.size) 0 h6 (by simpa using h9.1) (by simpa using hfit2) (onesA_spec hone hn)
              simp only [Nat.add_zero] at hst
              have hsp : Go.Sx.splice (vs ++ rest).toArray (len * ie.size) us = ((vs.take (len * ie.size) ++ us) ++ (vs ++ rest).drop (len * ie.size + us.length)).toArray := by
                rw [sxsplice us _ (by simpa using hfit2)]
                simp only [List.toList_toArray]
                rw [take_over _ us _ hfit2, List.take_append_of_le_length (by rw [lv]; exact q4)]
              rw [hsp] at hst
              have hle := Nu.le_add (p := p) (hm.fresh _ (Nat.le_refl _))
              have hlen3 : ((vs.take (len * ie.size) ++ us) ++ (vs ++ rest).drop (len * ie.size + us.length)).length = (vs ++ rest).length := by
                have : (vs.take (len * ie.size)).length = len * ie.size := by rw [List.length_take]; omega
                rw [List.length_append, List.length_append, this, List.length_drop]
                omega
              obtain ⟨j1, j2⟩ := St.mMove hs hg hp _ (blk' := .buf (cs.take (len * ie.size) ++ news) ie.size) ⟨vs.take (len * ie.size) ++ us, (vs ++ rest).drop (len * ie.size + us.length), T, fr, vals_mono hle _ hnew, rfl, by rw [hlen3]; exact h8, by rw [hlen3]; exact h9.1, h9.2⟩
              refine ⟨_, _, _, j2, slU_mk (Nu.add_self _ _ _) (c := c) (by omega) (by omega), j1, ?_⟩
              rw [r1 hfit]
              simp only [add_mk, Nat.zero_add]
              rw [hst]
              rfl
            · -- a new row
              have holds : (vs.take (len * ie.size)).length = len * ie.size := by rw [List.length_take]; omega
              have hf1 : ∀ w1 : World, w1.heap = w.heap → (Builtin.firstCells ie.size len (.slice (some ⟨p.1, 0, none⟩) len c)).run P w1 = .ok (vs.take (len * ie.size)).toArray w1 := by
                intro w1 hw
                simp only [Builtin.firstCells, loadCells]
                refine run_loadCells0 _ _ (by simpa using holds) fun i hi => ?_
                have hi' : i < len * ie.size := by rw [List.size_toArray, holds] at hi; exact hi
                rw [add_mk, Nat.zero_add, cell_of (w := w1) (by rw [hw]; exact h6) (by omega)]
                simp only [List.getElem?_toArray]
                rw [List.getElem?_take, if_pos hi']
              obtain ⟨cap', hc', hcm, hr⟩ := r2 (by omega) _ holds hf1
              have hl2 : ((vs.take (len * ie.size) ++ us) ++ rep (cap' - (len + n)) z.cells.toList).length = cap' * ie.size := by
                rw [List.length_append, List.length_append, holds, rep_length, hlen, Array.length_toList, hzs, ← Nat.add_mul, ← Nat.add_mul]
                congr 1; omega
              obtain ⟨j1, j2⟩ := newBuf (St.mDel (drew hs) id) hnew e (z := ie.size) hl2 (0, 0) (fun i _ h => by simp at h) hcm
              refine ⟨_, _, _, j2, slU_mk (Nu.add_self _ _ _) hc' (by simp), j1, ?_⟩
              rw [hr]
        · cases h
      | true =>
        have hcc := k1 rfl
        subst hcc
        simp only at h
        cases hfit : Nat.ble (len + n) c with
        | true =>
          rw [hfit] at h
          have hfit := ble_true hfit
          simp only [cond_true] at h
          split at h
          · rename_i m2 hst
            simp only [Option.some.injEq, Prod.mk.injEq] at h
            obtain ⟨rfl, rfl⟩ := h
            obtain ⟨w', h2, h3⟩ := storeCells_run (P := P) hst hp hn hs
            refine ⟨_, ν, w', Nu.le_refl ν, slK_mk hp hfit, h2, ?_⟩
            rw [r1 hfit]
            simp only [add_mk]
            rw [h3]
            rfl
          · cases h
        | false =>
          rw [hfit] at h
          have hfit : ¬ (len + n ≤ c) := fun hle => by rw [Nat.ble_eq_true_of_le hle] at hfit; cases hfit
          simp only [cond_false] at h
          split at h
          · rename_i old hold
            simp only [Option.some.injEq, growA, Prod.mk.injEq] at h
            obtain ⟨rfl, rfl⟩ := h
            obtain ⟨os, o1, o2, o3⟩ := readsA_spec (P := P) hm hold hsv
            obtain ⟨cap', hc', hcm, hr⟩ := r2 (by omega) os o2 o3
            have hl2 : ((os ++ us) ++ rep (cap' - (len + n)) z.cells.toList).length = cap' * ie.size := by
              rw [List.length_append, List.length_append, o2, rep_length, hlen, Array.length_toList, hzs, ← Nat.add_mul, ← Nat.add_mul]
              congr 1; omega
            obtain ⟨j1, j2⟩ := newBuf (drew hs) (vals_append o1 hn) e (z := ie.size) hl2 (0, 0) (fun i _ h => by simp at h) hcm
            refine ⟨_, _, _, j2, slU_mk (Nu.add_self _ _ _) hc' (by simp), j1, ?_⟩
            rw [hr]
          · cases h
  · cases h

theorem appendA_sound (hs : St w0 (Mem ν m :: L) w) {ts : Array TypeId} {ty : TypeId} {as : List AV} {vs : List Value} {av : AV} (hv : vals ν as = some vs) (h : appendA P m ts.toList as = some (av, m')) :
    ∃ v ν' w', ν.le ν' ∧ av.val ν' = some v ∧ St w0 (Mem ν' m' :: L) w' ∧ (Builtin.append_ ts ty vs.toArray).run P w = .ok v w' := by
  have hm := memOK hs
  unfold appendA at h
  split at h
  · rename_i t t' tl s x hts
    obtain ⟨sv, l1, hsv, hl1, rfl⟩ := vals_cons.1 hv
    obtain ⟨xv, l2, hxv, hl2, rfl⟩ := vals_cons.1 hl1
    simp only [vals, Option.some.injEq] at hl2
    subst hl2
    have h0 : ts[0]? = some t := by rw [← Array.getElem?_toList, hts]; rfl
    have h1 : ts[1]? = some t' := by rw [← Array.getElem?_toList, hts]; rfl
    split at h
    · rename_i e d hu hu'
      split at h
      · rename_i ie z hie hz
        cases hb : (Nat.beq z.length ie.size && Nat.ble 1 ie.size && onesA z) with
        | false => rw [hb] at h; cases h
        | true =>
          rw [hb] at h
          simp only [Bool.and_eq_true] at hb
          obtain ⟨⟨q1, q2⟩, q3⟩ := hb
          have q1 := Nat.eq_of_beq_eq_true q1
          have q2 := ble_true q2
          simp only [cond_true] at h
          obtain ⟨ti, zv, z1, z2, z3⟩ := zeroOf_spec (ν := ν) hz
          rw [hie] at z1
          cases z1
          have lz : zv.cells.size = ie.size := by rw [← Array.length_toList, vals_length z3, q1]
          split at h
          · rename_i n news hnews
            unfold appNews at hnews
            split at hnews
            · rename_i hint
              split at hnews
              · rename_i n' hn'
                cases hb3 : Nat.ble (n' * (ie.bytes + 1)) 1000000000 with
                | false => rw [hb3] at hnews; cases hnews
                | true =>
                  rw [hb3] at hnews
                  simp only [cond_true, Option.some.injEq, Prod.mk.injEq] at hnews
                  obtain ⟨rfl, rfl⟩ := hnews
                  obtain ⟨k, rfl⟩ := intOf_val hn' hxv
                  exact appTo_sound hs h0 h1 hu hu' hie z2 q2 lz (rep_vals z3 n') (rep_all q3 n') (by rw [rep_length, Array.length_toList, lz]) hsv (.inl ⟨hint, ⟨k, rfl⟩, rfl⟩) h
              · cases hnews
            · rename_i hint
              split at hnews
              · rename_i n' hn'
                split at hnews
                · rename_i l hl
                  cases ho : onesA l with
                  | false => rw [ho] at hnews; cases hnews
                  | true =>
                    rw [ho] at hnews
                    simp only [cond_true, Option.some.injEq, Prod.mk.injEq] at hnews
                    obtain ⟨rfl, rfl⟩ := hnews
                    obtain ⟨us, u1, u2, u3⟩ := readsA_spec (P := P) hm hl hxv
                    exact appTo_sound hs h0 h1 hu hu' hie z2 q2 lz u1 ho u2 hsv (.inr ⟨hint, fun w1 => lenA_spec hn' hxv w1, u3⟩) h
                · cases hnews
              · cases hnews
          · cases h
      · cases h
    · cases h
  · cases h

theorem copyA_sound (hs : St w0 (Mem ν m :: L) w) {ts : Array TypeId} {ty : TypeId} {as : List AV} {vs : List Value} {av : AV} (hv : vals ν as = some vs) (h : copyA P m ts.toList as = some (av, m')) :
    ∃ v w', av.val ν = some v ∧ St w0 (Mem ν m' :: L) w' ∧ (Builtin.copy_ ts ty vs.toArray).run P w = .ok v w' := by
  have hm := memOK hs
  unfold copyA at h
  split at h
  · rename_i t tl dd x hts
    obtain ⟨sv, l1, hsv, hl1, rfl⟩ := vals_cons.1 hv
    obtain ⟨xv, l2, hxv, hl2, rfl⟩ := vals_cons.1 hl1
    simp only [vals, Option.some.injEq] at hl2
    subst hl2
    have h0 : ts[0]? = some t := by rw [← Array.getElem?_toList, hts]; rfl
    split at h
    · rename_i e hu
      split at h
      · rename_i ie dl xl hie hdl hxl
        have l1 := lenA_spec (P := P) hxl hxv w
        split at h
        · rename_i new id off len cap kn hnew
          obtain ⟨us, u1, u2, u3⟩ := readsA_spec (P := P) hm hnew hxv
          obtain ⟨p, c, hp, rfl, _⟩ := sl_val hsv
          simp only [lenA, Option.some.injEq] at hdl
          subst hdl
          split at h
          · rename_i m2 hst
            simp only [Option.some.injEq, Prod.mk.injEq] at h
            obtain ⟨rfl, rfl⟩ := h
            obtain ⟨w', h2, h3⟩ := storeCells_run (P := P) hst hp u1 hs
            refine ⟨_, w', rfl, h2, ?_⟩
            have u4 := u3 w rfl
            simp only [Builtin.copy_, h0, List.getElem?_toArray, List.getElem?_cons_zero, List.getElem?_cons_succ, Sem.run_bind, run_underlying hu, Result.andThen_ok, l1, sizeOf, typeInfo, run_program, hie, Sem.run_pure]
            rw [show Nat.min xl len = min xl len from rfl, u4]
            simp only [Result.andThen_ok, h3, goInt]
            rfl
          · cases h
        · cases h
      · cases h
    · cases h
  · cases h

theorem deleteA_sound (hs : St w0 (Mem ν m :: L) w) {ts : Array TypeId} {ty : TypeId} {as : List AV} {vs : List Value} (hv : vals ν as = some vs) (h : deleteA P m ts.toList as = some m') :
    ∃ w', St w0 (Mem ν m' :: L) w' ∧ (Builtin.delete_ ts ty vs.toArray).run P w = .ok (.tuple #[]) w' := by
  have hm := memOK hs
  unfold deleteA at h
  split at h
  · rename_i t tl id kk hts
    obtain ⟨sv, l1, hsv, hl1, rfl⟩ := vals_cons.1 hv
    obtain ⟨xv, l2, hxv, hl2, rfl⟩ := vals_cons.1 hl1
    simp only [vals, Option.some.injEq] at hl2
    subst hl2
    have h0 : ts[0]? = some t := by rw [← Array.getElem?_toList, hts]; rfl
    split at h
    · rename_i kt e k hu hk
      have hk1 := flatOf_val (ν := ν) hk
      rw [hxv] at hk1
      cases hk1
      obtain ⟨p, hp, rfl⟩ := mp_val hsv
      split at h
      · rename_i es clock hg
        obtain ⟨p', l, hp', hl, hb⟩ := map_at hm hg
        rw [hp] at hp'
        cases hp'
        cases hko : keyOK P (emptyL es) kt xv with
        | false => rw [hko] at h; cases h
        | true =>
          rw [hko] at h
          simp only [cond_true] at h
          have hem : l.toArray.isEmpty = emptyL es := by
            rw [emptyL_eq]
            have := valEs_length hl
            cases l <;> cases es <;> simp at this ⊢
          have hck := keyOK_spec hko w
          have g1 := run_getMap (P := P) hb
          split at h
          · rename_i i hfi
            simp only [Option.some.injEq] at h
            subst h
            rcases findA_spec hfi hl w with ⟨h1, _⟩ | ⟨j, e', h1, h2, h3⟩
            · cases h1
            · cases h1
              refine ⟨_, mapSet hs hg hp (valEs_erase hl i) clock, ?_⟩
              have hlt : i < l.length := (List.getElem?_eq_some_iff.1 h2).1
              have he : l.toArray.eraseIdxIfInBounds i = (l.eraseIdx i).toArray := by simp [Array.eraseIdxIfInBounds, hlt]
              simp only [Builtin.delete_, h0, List.getElem?_toArray, List.getElem?_cons_zero, List.getElem?_cons_succ, Sem.run_bind, run_underlying hu, Result.andThen_ok, g1, hem, hck, h3, he, run_setMap' hb, Sem.run_pure]
          · rename_i hfi
            simp only [Option.some.injEq] at h
            subst h
            rcases findA_spec hfi hl w with ⟨_, h1⟩ | ⟨j, e', h1, _, _⟩
            · refine ⟨w, hs, ?_⟩
              have hsame : ({ w with heap := w.heap.setIfInBounds p.1 (.map l.toArray clock) } : World) = w := by
                have : w.heap.setIfInBounds p.1 (.map l.toArray clock) = w.heap := by
                  apply Array.ext_getElem?
                  intro k
                  rw [Array.getElem?_setIfInBounds]
                  split
                  · rename_i hk; subst hk; split
                    · exact hb.symm
                    · rename_i hge; rw [Array.getElem?_eq_none (by omega)]
                  · rfl
                rw [this]
              simp only [Builtin.delete_, h0, List.getElem?_toArray, List.getElem?_cons_zero, List.getElem?_cons_succ, Sem.run_bind, run_underlying hu, Result.andThen_ok, g1, hem, hck, h1, run_setMap' hb, Sem.run_pure, hsame]
            · cases h1
          · cases h
      · cases h
    · cases h
  · cases h

theorem clearA_sound (hs : St w0 (Mem ν m :: L) w) {ts : Array TypeId} {ty : TypeId} {as : List AV} {vs : List Value} (hv : vals ν as = some vs) (h : clearA P m ts.toList as = some m') :
    ∃ w', St w0 (Mem ν m' :: L) w' ∧ (Builtin.clear_ ts ty vs.toArray).run P w = .ok (.tuple #[]) w' := by
  have hm := memOK hs
  unfold clearA at h
  split at h
  · rename_i t tl id off len cap kn hts
    obtain ⟨sv, l1, hsv, hl1, rfl⟩ := vals_cons.1 hv
    simp only [vals, Option.some.injEq] at hl1
    subst hl1
    have h0 : ts[0]? = some t := by rw [← Array.getElem?_toList, hts]; rfl
    obtain ⟨p, c, hp, rfl, _⟩ := sl_val hsv
    split at h
    · rename_i e hu
      split at h
      · rename_i ie z hie hz
        cases hb : (Nat.beq z.length ie.size && Nat.ble 1 ie.size && Nat.ble 1 len) with
        | false => rw [hb] at h; cases h
        | true =>
          rw [hb] at h
          simp only [Bool.and_eq_true] at hb
          obtain ⟨⟨q1, q2⟩, q3⟩ := hb
          have q1 := Nat.eq_of_beq_eq_true q1
          have q2 := ble_true q2
          have q3 := ble_true q3
          simp only [cond_true] at h
          obtain ⟨ti, zv, z1, z2, z3⟩ := zeroOf_spec (ν := ν) hz
          rw [hie] at z1
          cases z1
          have lz : zv.cells.size = ie.size := by rw [← Array.length_toList, vals_length z3, q1]
          obtain ⟨w', h2, h3⟩ := storeCells_run (P := P) h hp (rep_vals z3 len) hs
          refine ⟨w', h2, ?_⟩
          obtain ⟨len', rfl⟩ : ∃ k, len = k + 1 := ⟨len - 1, by omega⟩
          simp only [Builtin.clear_, h0, List.getElem?_toArray, List.getElem?_cons_zero, Sem.run_bind, run_underlying hu, Result.andThen_ok, zeroValue, typeInfo, run_program, hie, Sem.run_pure, z2, zeroCells_eq (len' + 1) (show 0 < zv.cells.size by omega), List.toList_toArray, h3]
      · cases h
    · cases h
  · rename_i t tl id hts
    obtain ⟨sv, l1, hsv, hl1, rfl⟩ := vals_cons.1 hv
    simp only [vals, Option.some.injEq] at hl1
    subst hl1
    have h0 : ts[0]? = some t := by rw [← Array.getElem?_toList, hts]; rfl
    obtain ⟨p, hp, rfl⟩ := mp_val hsv
    split at h
    · rename_i es clock d hg hu
      simp only [Option.some.injEq] at h
      subst h
      obtain ⟨p', l, hp', hl, hb⟩ := map_at hm hg
      rw [hp] at hp'
      cases hp'
      have g1 := run_getMap (P := P) hb
      refine ⟨_, mapSet hs hg hp (es' := []) (l' := []) rfl clock, ?_⟩
      simp only [Builtin.clear_, h0, List.getElem?_toArray, List.getElem?_cons_zero, Sem.run_bind, run_underlying hu, Result.andThen_ok, g1, run_setMap' hb, Sem.run_pure]
    · cases h
  · cases h
end
end Go.Ev
