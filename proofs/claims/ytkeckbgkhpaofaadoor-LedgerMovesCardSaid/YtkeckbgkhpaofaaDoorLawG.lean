/-
  LedgerMoves as a plain law.
-/
import Derived.Test.YtkeckbgkhpaofaaDoorLawM
namespace Go.Proofs.YtkeckbgkhpaofaaDoor
open Go.RowKit Go.Sx
set_option linter.unusedVariables false
set_option linter.unusedSimpArgs false
set_option maxRecDepth 100000

abbrev mvOp (a b : ByteArray) (n : Int) : OpV := ⟨5, a, ⟨#[]⟩, ⟨#[]⟩, b, n⟩
abbrev dlOp (b : ByteArray) : OpV := ⟨3, b, ⟨#[]⟩, ⟨#[]⟩, ⟨#[]⟩, 0⟩
theorem may_mv {a b : ByteArray} {n : Int} (ha : KeyOK a) (hb : KeyOK b) (hne : b ≠ a) (h1 : 1 ≤ n) (h2 : n ≤ 1125899906842624) : may (mvOp a b n) = true := by
  have v : valued (⟨#[]⟩ : ByteArray) = true := by decide
  unfold may
  simp only [mvOp]
  rw [if_neg (by decide), if_neg (by decide), if_neg (by decide), if_neg (by decide), if_pos (by decide), if_neg (by rw [keyed_iff.2 hb]; decide), if_neg (by rw [decide_eq_false hne]; decide), if_neg (by rw [decide_eq_false (by omega)]; decide),
    if_neg (by rw [decide_eq_false (by omega)]; decide), if_pos (by simp), if_pos (keyed_iff.2 ha), if_pos v]
  exact v
theorem may_dl {b : ByteArray} (hb : KeyOK b) : may (dlOp b) = true := by
  have v : valued (⟨#[]⟩ : ByteArray) = true := by decide
  unfold may
  simp only [dlOp]
  rw [if_neg (by decide), if_pos (by decide), if_pos (by simp), if_pos (keyed_iff.2 hb), if_pos v]
  exact v
theorem mv_facts {a b : ByteArray} {n : Int} (h : may (mvOp a b n) = true) : KeyOK a ∧ KeyOK b ∧ b ≠ a ∧ 1 ≤ n ∧ n ≤ 1125899906842624 := by
  obtain ⟨h1, _, _, h2⟩ := may_facts h
  rcases h2 with h2 | h2 | h2 | h2 | h2
  · exact absurd h2 (by simp)
  · exact absurd h2 (by simp)
  · exact absurd h2 (by simp)
  · exact absurd h2 (by simp)
  · exact ⟨h1, h2.2.1, h2.2.2.1, h2.2.2.2.1, h2.2.2.2.2⟩

/-- a move that is done -/
theorem mv_done {m : Pairs} {a b : ByteArray} {n f t : Int} {v : ByteArray} (h : may (mvOp a b n) = true) (ha : aget m a = some v) (hv : number v = (f, true)) (hb : ∀ w, aget m b = some w → (number w).2 = true) (ht : toNum m b = t)
    (hf : n ≤ f) (htn : t + n ≤ 1125899906842624) (hfull : full m b = false) : ldo m (mvOp a b n) = (⟨0, dec (f - n)⟩, aset (aset m a (dec (f - n))) b (dec (t + n))) := by
  rw [ldo_move h rfl]
  simp only [ha, hv, ht]
  rw [if_neg, if_neg (by omega), if_neg (by omega), hfull]
  · rfl
  · rintro (hc | ⟨w, hw, hc⟩)
    · cases hc
    · rw [hb w hw] at hc; cases hc

theorem movB_true {m : Pairs} {a b : ByteArray} {n : Int} (hi : Inv m) (h : may (mvOp a b n) = true) : movB m a b n = true := by
  obtain ⟨ka, kb, hne, hn1, hn2⟩ := mv_facts h
  have hL := lst_length m
  have hab : ¬ a = b := fun e => hne e.symm
  cases ha : aget m a with
  | none =>
    have E : ldo m (mvOp a b n) = (⟨4, ⟨#[]⟩⟩, m) := by rw [ldo_move h rfl]; simp only [ha]
    unfold movB
    rw [E]
    simp [ha]
  | some v =>
    cases h1 : (number v).2 with
    | false =>
      have E : ldo m (mvOp a b n) = (⟨5, ⟨#[]⟩⟩, m) := by rw [ldo_move h rfl]; simp only [ha]; rw [if_pos (.inl h1)]
      have nv : (num v).2 = false := by rw [num_snd, h1]
      unfold movB
      rw [E]
      simp [ha, nv]
    | true =>
      have hv : number v = ((number v).1, true) := by rw [← h1]
      obtain ⟨hd1, hf0, hf1⟩ := number_true h1
      have nv : num v = ((number v).1, true) := num_of_number h1
      generalize hfq : (number v).1 = f at hv hd1 hf0 hf1 nv
      -- what stands at b
      have key : ∀ (t : Int) (there : Bool), (aget m b).isSome = there → (∀ w, aget m b = some w → (number w).2 = true) → toNum m b = t → 0 ≤ t → t ≤ 1125899906842624 → (num ((aget m b).getD ⟨#[]⟩)).1 = t →
          ((num ((aget m b).getD ⟨#[]⟩)).2 = there) → (there = false → t = 0) → (∀ w, aget m b = some w → dec t = w) → movB m a b n = true := by
        intro t there hth hbn ht ht0 ht1 hn1' hn2' hz hw
        have hwr : IntKind.u64.wrap (t + n) = t + n := u64w (by omega) (by omega)
        have hwn : ¬ ∃ w, aget m b = some w ∧ (number w).2 = false := by
          rintro ⟨w, hw1, hw2⟩
          rw [hbn w hw1] at hw2; cases hw2
        by_cases c1 : f < n
        · have E : ldo m (mvOp a b n) = (⟨14, v⟩, m) := by
            rw [ldo_move h rfl]; simp only [ha, hv]
            rw [if_neg (by rintro (hc | hc); · cases hc
                           · exact hwn hc), if_pos c1]
          unfold movB
          rw [E]
          have c1' : ¬ n ≤ f := by omega
          simp [ha, nv, c1']
        · by_cases c2 : 1125899906842624 < t + n
          · have E : ldo m (mvOp a b n) = (⟨6, ⟨#[]⟩⟩, m) := by
              rw [ldo_move h rfl]; simp only [ha, hv, ht]
              rw [if_neg (by rintro (hc | hc); · cases hc
                             · exact hwn hc), if_neg c1, if_pos c2]
            unfold movB
            rw [E]
            have c2' : ¬ t + n ≤ 1125899906842624 := by omega
            simp [ha, nv, hn1', hwr, c2']
          · by_cases c3 : full m b = true
            · have E : ldo m (mvOp a b n) = (⟨7, ⟨#[]⟩⟩, m) := by
                rw [ldo_move h rfl]; simp only [ha, hv, ht]
                rw [if_neg (by rintro (hc | hc); · cases hc
                               · exact hwn hc), if_neg c1, if_neg c2, if_pos c3]
              obtain ⟨c4, c5⟩ := full_iff.1 c3
              have c5' : ¬ ((lst m).length : Int) < 64 := by omega
              unfold movB
              rw [E]
              simp [ha, c4, hL]
              intros
              omega
            · have c3' : full m b = false := by simpa using c3
              have E := mv_done h ha hv hbn ht (by omega) (by omega) c3'
              -- the map behind
              generalize hm1 : aset (aset m a (dec (f - n))) b (dec (t + n)) = m1 at E
              have g1 : ∀ k, aget m1 k = if b = k then some (dec (t + n)) else if a = k then some (dec (f - n)) else aget m k := by
                intro k; rw [← hm1, aget_aset, aget_aset]
              have hi1 : Inv m1 := by have := ldo_inv (mvOp a b n) hi; rw [E] at this; exact this
              have ga : aget m1 a = some (dec (f - n)) := by rw [g1, if_neg hne, if_pos rfl]
              have gb : aget m1 b = some (dec (t + n)) := by rw [g1, if_pos rfl]
              have nl : num (dec (f - n)) = (f - n, true) := num_dec (by omega) (by omega)
              have nt : num (dec (t + n)) = (t + n, true) := num_dec (by omega) (by omega)
              have hwf : IntKind.u64.wrap (f - n) = f - n := u64w (by omega) (by omega)
              have h2 : may (mvOp b a n) = true := may_mv kb ka hab hn1 hn2
              have ht2 : toNum m1 a = f - n := by rw [toNum, ga]; simp only [Option.getD_some]; rw [number_dec (by omega) (by omega)]
              have f2 : full m1 a = false := by
                cases hq : full m1 a with
                | false => rfl
                | true => have := (full_iff.1 hq).1; rw [ga] at this; cases this
              have E2 : ldo m1 (mvOp b a n) = (⟨0, dec t⟩, aset (aset m1 b (dec t)) a (dec f)) := by
                have := mv_done h2 gb (number_dec (by omega) (by omega)) (fun w hw => by rw [ga] at hw; cases hw; rw [number_dec (by omega) (by omega)]) ht2 (by omega) (by omega) f2
                rw [this]
                have e1 : t + n - n = t := by omega
                have e2 : f - n + n = f := by omega
                rw [e1, e2]
              generalize hm2 : aset (aset m1 b (dec t)) a (dec f) = m2 at E2
              have hi2 : Inv m2 := by have := ldo_inv (mvOp b a n) hi1; rw [E2] at this; exact this
              have g2 : ∀ k, aget m2 k = if a = k then some (dec f) else if b = k then some (dec t) else aget m k := by
                intro k
                rw [← hm2, aget_aset, aget_aset, g1]
                by_cases q1 : a = k
                · simp only [if_pos q1]
                · simp only [if_neg q1]
                  by_cases q2 : b = k
                  · simp only [if_pos q2]
                  · simp only [if_neg q2]
              cases there with
              | true =>
                obtain ⟨w, hw'⟩ := Option.isSome_iff_exists.1 hth
                have hback : lst m = lst m2 := lst_ext hi.keys hi2.keys fun k => by
                  rw [g2]
                  by_cases q1 : a = k
                  · rw [if_pos q1, ← q1, ha, hd1]
                  · rw [if_neg q1]
                    by_cases q2 : b = k
                    · rw [if_pos q2, ← q2, hw', hw w hw']
                    · rw [if_neg q2]
                have c1' : n ≤ f := by omega
                have c2' : t + n ≤ 1125899906842624 := by omega
                unfold movB
                rw [E, E2]
                simp [ha, nv, hn1', hn2', hth, hwr, hwf, c1', c2', ga, gb, nl, nt, hback]
              | false =>
                have hbn' : aget m b = none := by simpa using hth
                have ht' : t = 0 := hz rfl
                subst ht'
                have hlen : ((lst m).length : Int) < 64 := by
                  rcases Nat.lt_or_ge m.length 64 with q | q
                  · omega
                  · exact absurd (full_iff.2 ⟨hbn', q⟩) c3
                have gb2 : aget m2 b = some (dec 0) := by rw [g2, if_neg hab, if_pos rfl]
                have d0 : dec 0 = (⟨#[48]⟩ : ByteArray) := by decide +kernel
                have E3 : ldo m2 (dlOp b) = (⟨0, dec 0⟩, adel m2 b) := by rw [ldo_del (may_dl kb) rfl]; simp only [gb2]
                have hback : lst m = lst (adel m2 b) := lst_ext hi.keys (adel_keys hi2.keys) fun k => by
                  rw [aget_adel hi2.keys, g2]
                  by_cases q2 : b = k
                  · rw [if_pos q2, ← q2, hbn']
                  · rw [if_neg q2, if_neg q2]
                    by_cases q1 : a = k
                    · rw [if_pos q1, ← q1, ha, hd1]
                    · rw [if_neg q1]
                have c1' : n ≤ f := by omega
                have c2' : n ≤ 1125899906842624 := by omega
                have hwr' : IntKind.u64.wrap n = n := u64w (by omega) (by omega)
                simp only [Int.zero_add] at nt gb hwr
                have hlen2 : ((lst (adel m2 b)).length : Int) < 64 := by rw [← hback]; exact hlen
                unfold movB
                rw [E, E2, E3]
                simp only [hbn', Option.getD_none] at hn1' hn2'
                simp [ha, nv, hn1', hn2', hbn', hwr', hwf, c1', c2', ga, gb, nl, nt, hback, hlen2, gb2, d0]
      cases hb : aget m b with
      | none =>
        exact key 0 false (by rw [hb]; rfl) (fun w hw => by rw [hb] at hw; cases hw) (by rw [toNum, hb]; simp only [Option.getD_none]; rw [number_nil]) (by omega) (by omega) (by rw [hb]; simp only [Option.getD_none]; rw [num_empty]) (by rw [hb]; simp only [Option.getD_none]; rw [num_empty]) (fun _ => rfl) (fun w hw => by rw [hb] at hw; cases hw)
      | some w =>
        cases h2 : (number w).2 with
        | false =>
          have E : ldo m (mvOp a b n) = (⟨5, ⟨#[]⟩⟩, m) := by rw [ldo_move h rfl]; simp only [ha]; rw [if_pos (.inr ⟨w, hb, h2⟩)]
          have nw : (num w).2 = false := by rw [num_snd, h2]
          unfold movB
          rw [E]
          simp [ha, hb, nw]
        | true =>
          obtain ⟨hd2, ht0, ht1⟩ := number_true h2
          have nw := num_of_number h2
          exact key (number w).1 true (by rw [hb]; rfl) (fun w' hw => by rw [hb] at hw; cases hw; exact h2) (by rw [toNum, hb]; rfl) ht0 ht1 (by rw [hb]; simp only [Option.getD_some]; rw [nw]) (by rw [hb]; simp only [Option.getD_some]; rw [nw]) (fun h => by cases h) (fun w' hw => by rw [hb] at hw; cases hw; exact hd2)
end Go.Proofs.YtkeckbgkhpaofaaDoor
