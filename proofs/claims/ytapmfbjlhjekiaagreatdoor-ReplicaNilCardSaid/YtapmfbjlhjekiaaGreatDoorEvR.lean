/-
  Ev, part R: slices.Grow at bytes. Conditions: none beside each theorem's own.
-/
import Derived.Test.YtapmfbjlhjekiaaGreatDoorEvM
import Derived.Test.YtapmfbjlhjekiaaGreatDoorSxS
namespace Go.Proofs.YtapmfbjlhjekiaaGreatDoor
open Go.RowKit Go.Sx Go.Ev
set_option linter.unusedVariables false
set_option linter.unusedSimpArgs false
set_option maxRecDepth 100000

/-- The reckoner's word for slices.Grow at bytes. -/
theorem grow_ok {avs : List AV} {m m' : AM} {r : AV} {ν : Nu} {vs : List Value} {w w0 : World} {L : List Asn} (h : growSpec 1 avs m = some (r, m')) (hv : vals ν avs = some vs) (hs : St w0 (Mem ν m :: L) w) :
    Calls Tryz.prog 211 vs.toArray w (Ret fun v w' => ∃ ν', ν.le ν' ∧ r.val ν' = some v ∧ St w0 (Mem ν' m' :: L) w') := by
  have hm := memOK hs
  unfold growSpec at h
  split at h
  · rename_i id off len cap kn n
    obtain ⟨v1, l1, h1, hl1, rfl⟩ := vals_cons.1 hv
    obtain ⟨v2, l2, h2, hl2, rfl⟩ := vals_cons.1 hl1
    simp only [vals, Option.some.injEq] at hl2
    subst hl2
    simp only [AV.val, Option.some.injEq] at h2
    subst h2
    cases kn with
    | true => cases h
    | false =>
      simp only at h
      cases hb : (Nat.beq off 0 && Nat.beq cap 0 && Nat.ble n 1000000 && Nat.ble len 1000000) with
      | false => rw [hb] at h; cases h
      | true =>
        rw [hb] at h
        simp only [Bool.and_eq_true] at hb
        obtain ⟨⟨⟨q1, q2⟩, q3⟩, q4⟩ := hb
        obtain rfl := Nat.eq_of_beq_eq_true q1
        obtain rfl := Nat.eq_of_beq_eq_true q2
        have q3 := ble_true q3
        have q4 := ble_true q4
        simp only [cond_true] at h
        obtain ⟨p, c, hp, rfl, hlc, -, k2⟩ := sl_val h1
        have hcp : c = p.2 := by have := k2 rfl; omega
        split at h
        · rename_i cs z hg
          cases hz : (Nat.beq z 1 && Nat.beq cs.length len) with
          | false => rw [hz] at h; cases h
          | true =>
            rw [hz] at h
            simp only [Bool.and_eq_true] at hz
            obtain rfl := Nat.eq_of_beq_eq_true hz.1
            have hcl := Nat.eq_of_beq_eq_true hz.2
            simp only [cond_true, Option.some.injEq, growA, Prod.mk.injEq] at h
            obtain ⟨rfl, rfl⟩ := h
            obtain ⟨p', o', h5, h6, us, rest, T, fr, h7, rfl, h8, h9, h10⟩ := hm.at_ id _ hg
            rw [hp] at h5
            cases h5
            have lu := vals_length h7
            have hall : (us ++ rest).length = c := by rw [h8, hcp, Nat.mul_one]
            refine Calls.ret (grow_spec hs (fun ad h => by cases h; rfl) hlc (by rw [hcp]; exact h10) q3 q4 hall ?_) ?_
            · intro w1 hw
              simp only [Builtin.firstCells, loadCells]
              refine run_loadCells0 _ _ (by simpa using hall) fun i hi => ?_
              rw [add_mk, Nat.zero_add]
              simp only [World.cell?, hw, h6]
              simp
            · rintro v w' (⟨-, rfl, e0⟩ | ⟨cap', rest', e1, e2, rfl, e3, rfl⟩)
              · obtain ⟨j1, j2⟩ := St.mMove hs hg hp _ (blk' := .buf cs 1) ⟨us, rest, T, fr, vals_mono (Nu.le_add (hm.fresh _ (Nat.le_refl _))) _ h7, rfl, h8, h9, h10⟩
                refine ⟨_, j2, slU_mk (Nu.add_self _ _ _) hlc (by omega), ?_⟩
                have hsame : ({ w with heap := w.heap.setIfInBounds p.1 (.cells (us ++ rest).toArray T fr) } : World) = w := by
                  have : w.heap.setIfInBounds p.1 (.cells (us ++ rest).toArray T fr) = w.heap := by
                    apply Array.ext_getElem?
                    intro k
                    rw [Array.getElem?_setIfInBounds]
                    split
                    · rename_i hk; subst hk; split
                      · exact h6.symm
                      · rename_i hge; rw [Array.getElem?_eq_none (by omega)]
                    · rfl
                  rw [this]
                rw [hsame] at j1
                rw [e0]
                exact j1
              · have hdr : St w0 (Mem ν m :: L) { w with drawn := w.drawn + 1 } := hs.drew
                obtain ⟨j1, j2⟩ := newBuf (St.mDel hdr id) h7 5 (z := 1) (cap := cap') (rest := rest ++ rest') (by rw [← List.append_assoc, e3, Nat.mul_one]) (0, 0) (fun i _ h => by simp at h) e2
                refine ⟨_, j2, slU_mk (Nu.add_self _ _ _) e1 (by simp), ?_⟩
                rw [← List.append_assoc] at j1
                exact j1
        · cases h
  · rename_i n
    obtain ⟨v1, l1, h1, hl1, rfl⟩ := vals_cons.1 hv
    obtain ⟨v2, l2, h2, hl2, rfl⟩ := vals_cons.1 hl1
    simp only [vals, Option.some.injEq] at hl2
    subst hl2
    simp only [AV.val, Option.some.injEq] at h1 h2
    subst h1 h2
    cases hb : (Nat.ble n 1000000 && Nat.ble 1 n) with
    | false => rw [hb] at h; cases h
    | true =>
      rw [hb] at h
      simp only [Bool.and_eq_true] at hb
      have q1 := ble_true hb.1
      have q2 := ble_true hb.2
      simp only [cond_true, Option.some.injEq, growA, Prod.mk.injEq] at h
      obtain ⟨rfl, rfl⟩ := h
      refine Calls.ret (grow_spec (all := []) (n := n) (len := 0) (c := 0) (base := none) hs (fun ad h => by cases h) (Nat.le_refl _) (by omega) q1 (by omega) rfl (fun w1 _ => by simp [Builtin.firstCells])) ?_
      rintro v w' (⟨h0, -, -⟩ | ⟨cap', rest', e1, e2, rfl, e3, rfl⟩)
      · omega
      · have hdr : St w0 (Mem ν m :: L) { w with drawn := w.drawn + 1 } := hs.drew
        obtain ⟨j1, j2⟩ := newBuf hdr (cs := []) (us := []) rfl 5 (z := 1) (cap := cap') (rest := rest') (by rw [e3, Nat.mul_one]) (0, 0) (fun i _ h => by simp at h) e2
        exact ⟨_, j2, slU_mk (Nu.add_self _ _ _) e1 (by simp), j1⟩
  · cases h
end Go.Proofs.YtapmfbjlhjekiaaGreatDoor
