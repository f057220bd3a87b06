/-
  Ev, part S: a call that touches a part of the memory only: split and join. Conditions: none beside EvM's.
-/
import Derived.Test.YtapmfbjlhjekiaaGreatDoorEvN
namespace Go.Ev
open Go.Sx
set_option linter.unusedVariables false
set_option linter.unusedSimpArgs false
section
variable {P : Program} {G : Nat → Option (List Value)} {ν ν' : Nu} {m m1 m2 m3 : AM} {w w0 : World} {L : List Asn}

theorem MemOK.sub (h : MemOK ν m w) (hs : ∀ id b, m1.get id = some b → m.get id = some b) (hn : m1.next = m.next) : MemOK ν m1 w :=
  ⟨fun id hid => h.fresh id (by rw [← hn]; exact hid), fun id blk hg => h.at_ id blk (hs id blk hg), fun id id' blk blk' p p' hg hg' => h.inj id id' blk blk' p p' (hs id blk hg) (hs id' blk' hg')⟩

/-- The memory in two parts. -/
theorem St.split (hs : St w0 (Mem ν m :: L) w) (h1 : ∀ id b, m1.get id = some b → m.get id = some b) (n1 : m1.next = m.next) (h2 : ∀ id b, m2.get id = some b → m.get id = some b ∧ m1.get id = none) (n2 : m2.next = m.next) : St w0 (Mem ν m1 :: Mem ν m2 :: L) w := by
  have hm := memOK hs
  have ap := List.pairwise_cons.1 hs.apart
  have o1 : ∀ b, (Mem ν m1).own b → (Mem ν m).own b := by
    rintro b ⟨id, blk, p, hg, hp, rfl⟩
    exact ⟨id, blk, p, h1 id blk hg, hp, rfl⟩
  have o2 : ∀ b, (Mem ν m2).own b → (Mem ν m).own b := by
    rintro b ⟨id, blk, p, hg, hp, rfl⟩
    exact ⟨id, blk, p, (h2 id blk hg).1, hp, rfl⟩
  refine ⟨hs.os, hs.tape, hs.output, fun A hA => ?_, fun A hA b hb => ?_, List.pairwise_cons.2 ⟨fun B hB b hb hb' => ?_, List.pairwise_cons.2 ⟨fun B hB b hb hb' => ap.1 B hB b (o2 b hb) hb', ap.2⟩⟩⟩
  · rcases List.mem_cons.1 hA with rfl | hA
    · exact hm.sub h1 n1
    · rcases List.mem_cons.1 hA with rfl | hA
      · exact hm.sub (fun id b h => (h2 id b h).1) n2
      · exact hs.holds A (List.mem_cons_of_mem _ hA)
  · rcases List.mem_cons.1 hA with rfl | hA
    · exact hs.lt _ (List.mem_cons_self ..) b (o1 b hb)
    · rcases List.mem_cons.1 hA with rfl | hA
      · exact hs.lt _ (List.mem_cons_self ..) b (o2 b hb)
      · exact hs.lt A (List.mem_cons_of_mem _ hA) b hb
  · rcases List.mem_cons.1 hB with rfl | hB
    · obtain ⟨id, blk, p, hg, hp, rfl⟩ := hb
      obtain ⟨id', blk', p', hg', hp', e⟩ := hb'
      have := hm.inj id id' blk blk' p p' (h1 id blk hg) (h2 id' blk' hg').1 hp hp' e.symm
      subst this
      have := (h2 id blk' hg').2
      rw [hg] at this
      cases this
    · exact ap.1 B hB b (o1 b hb) hb'

/-- The two parts again as one. -/
theorem St.join (hs : St w0 (Mem ν' m1 :: Mem ν m2 :: L) w) (hle : ν.le ν') (h3 : ∀ id b, m3.get id = some b → m1.get id = some b ∨ m2.get id = some b) (n3 : m3.next = m1.next) : St w0 (Mem ν' m3 :: L) w := by
  have hm1 : MemOK ν' m1 w := memOK hs
  have hm2 : MemOK ν m2 w := hs.holds _ (List.mem_cons_of_mem _ (List.mem_cons_self ..))
  have ap := List.pairwise_cons.1 hs.apart
  have ap2 := List.pairwise_cons.1 ap.2
  have up : ∀ id blk, m2.get id = some blk → ∃ p o, ν id = some p ∧ ν' id = some p ∧ w.heap[p.1]? = some o ∧ blk.holds ν' p.2 o := by
    intro id blk hg
    obtain ⟨p, o, k1, k2, k3⟩ := hm2.at_ id blk hg
    exact ⟨p, o, k1, hle id p k1, k2, Blk.holds_mono hle _ k3⟩
  have cross : ∀ id id' blk blk' p p', m1.get id = some blk → m2.get id' = some blk' → ν' id = some p → ν' id' = some p' → p.1 = p'.1 → False := by
    intro id id' blk blk' p p' hg hg' hp hp' e
    obtain ⟨q, o, k1, k2, _, _⟩ := up id' blk' hg'
    rw [k2] at hp'
    cases hp'
    exact ap.1 _ (List.mem_cons_self ..) p.1 ⟨id, blk, p, hg, hp, rfl⟩ ⟨id', blk', p', hg', k1, e.symm⟩
  refine ⟨hs.os, hs.tape, hs.output, fun A hA => ?_, fun A hA b hb => ?_, List.pairwise_cons.2 ⟨fun B hB b hb hb' => ?_, ap2.2⟩⟩
  · rcases List.mem_cons.1 hA with rfl | hA
    · refine ⟨fun id hid => hm1.fresh id (by rw [← n3]; exact hid), fun id blk hg => ?_, fun id id' blk blk' p p' hg hg' hp hp' e => ?_⟩
      · rcases h3 id blk hg with h | h
        · exact hm1.at_ id blk h
        · obtain ⟨p, o, k1, k2, k3, k4⟩ := up id blk h
          exact ⟨p, o, k2, k3, k4⟩
      · rcases h3 id blk hg with h | h
        · rcases h3 id' blk' hg' with h' | h'
          · exact hm1.inj id id' blk blk' p p' h h' hp hp' e
          · exact (cross id id' blk blk' p p' h h' hp hp' e).elim
        · rcases h3 id' blk' hg' with h' | h'
          · exact (cross id' id blk' blk p' p h' h hp' hp e.symm).elim
          · obtain ⟨q, o, k1, k2, _, _⟩ := up id blk h
            obtain ⟨q', o', k1', k2', _, _⟩ := up id' blk' h'
            rw [k2] at hp
            rw [k2'] at hp'
            cases hp
            cases hp'
            exact hm2.inj id id' blk blk' p p' h h' k1 k1' e
    · exact hs.holds A (List.mem_cons_of_mem _ (List.mem_cons_of_mem _ hA))
  · rcases List.mem_cons.1 hA with rfl | hA
    · obtain ⟨id, blk, p, hg, hp, rfl⟩ := hb
      rcases h3 id blk hg with h | h
      · exact hs.lt _ (List.mem_cons_self ..) p.1 ⟨id, blk, p, h, hp, rfl⟩
      · obtain ⟨q, o, k1, k2, _, _⟩ := up id blk h
        rw [k2] at hp
        cases hp
        exact hs.lt _ (List.mem_cons_of_mem _ (List.mem_cons_self ..)) p.1 ⟨id, blk, p, h, k1, rfl⟩
    · exact hs.lt A (List.mem_cons_of_mem _ (List.mem_cons_of_mem _ hA)) b hb
  · obtain ⟨id, blk, p, hg, hp, rfl⟩ := hb
    rcases h3 id blk hg with h | h
    · exact ap.1 B (List.mem_cons_of_mem _ hB) p.1 ⟨id, blk, p, h, hp, rfl⟩ hb'
    · obtain ⟨q, o, k1, k2, _, _⟩ := up id blk h
      rw [k2] at hp
      cases hp
      exact ap2.1 B hB p.1 ⟨id, blk, p, h, k1, rfl⟩ hb'
end
#print axioms St.join
end Go.Ev
