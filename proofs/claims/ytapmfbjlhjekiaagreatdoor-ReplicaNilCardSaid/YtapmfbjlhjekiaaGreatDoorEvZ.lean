/-
  Ev, part Z: from parts of memory to the reckoner's memory and back. Conditions: none beside each theorem's own.
-/
import Derived.Test.YtapmfbjlhjekiaaGreatDoorEvY
namespace Go.Ev
open Go.Sx
set_option linter.unusedVariables false
set_option linter.unusedSimpArgs false
section
variable {P : Program} {G : Nat → Option (List Value)} {ν ν' : Nu} {m m1 m2 m3 : AM} {w w0 : World} {L : List Asn}

/-- A part gets the next name. -/
theorem St.absorbG {b c : Nat} {A : Asn} {blk : Blk} (hs : St w0 (Mem ν m :: A :: L) w) (hown : A.own b) (hh : A.holds w → ∃ o, w.heap[b]? = some o ∧ blk.holds (ν.add m.next (b, c)) c o) :
    St w0 (Mem (ν.add m.next (b, c)) (m.new blk) :: L) w ∧ ν.le (ν.add m.next (b, c)) := by
  have hm := memOK hs
  have hle : ν.le (ν.add m.next (b, c)) := Nu.le_add (hm.fresh _ (Nat.le_refl _))
  have hap := (List.pairwise_cons.1 hs.apart).1 A (by simp)
  obtain ⟨o1, ho1, ho2⟩ := hh (hs.holds A (by simp))
  have look : ∀ (k : Nat) (bl : Blk), (m.new blk).get k = some bl → (k = m.next ∧ bl = blk) ∨ (k ≠ m.next ∧ m.get k = some bl) := by
    intro k bl h
    rw [get_new] at h
    by_cases e : k = m.next
    · rw [if_pos e] at h; cases h; exact .inl ⟨e, rfl⟩
    · rw [if_neg e] at h; exact .inr ⟨e, h⟩
  refine ⟨St.conv hs.join (fun _ => ⟨fun k hk => ?_, fun k bl h => ?_, fun k k' b1 b2 p p' h h' hp hp' he => ?_⟩) ?_, hle⟩
  · have : m.next + 1 ≤ k := hk
    rw [Nu.add, if_neg (by omega)]
    exact hm.fresh k (by omega)
  · rcases look k bl h with ⟨rfl, rfl⟩ | ⟨e, h⟩
    · exact ⟨(b, c), o1, Nu.add_self _ _ _, ho1, ho2⟩
    · obtain ⟨p, o, h1, h2, h3⟩ := hm.at_ k bl h
      exact ⟨p, o, hle k p h1, h2, Blk.holds_mono hle _ h3⟩
  · have own : ∀ (k : Nat) (bl : Blk) (p : Nat × Nat), k ≠ m.next → m.get k = some bl → (ν.add m.next (b, c)) k = some p → ν k = some p ∧ p.1 ≠ b := by
      intro k bl p hne h hp
      rw [Nu.add, if_neg hne] at hp
      exact ⟨hp, fun e => hap p.1 ⟨k, bl, p, h, hp, rfl⟩ (by rw [e]; exact hown)⟩
    rcases look k b1 h with ⟨e, -⟩ | ⟨e, hh⟩
    · rcases look k' b2 h' with ⟨e', -⟩ | ⟨e', hh'⟩
      · rw [e, e']
      · obtain ⟨_, h2⟩ := own k' b2 p' e' hh' hp'
        rw [e, Nu.add_self] at hp
        cases hp
        exact absurd he.symm h2
    · obtain ⟨h1, h2⟩ := own k b1 p e hh hp
      rcases look k' b2 h' with ⟨e', -⟩ | ⟨e', hh'⟩
      · rw [e', Nu.add_self] at hp'
        cases hp'
        exact absurd he h2
      · obtain ⟨h3, _⟩ := own k' b2 p' e' hh' hp'
        exact hm.inj k k' b1 b2 p p' hh hh' h1 h3 he
  · rintro b' ⟨k, bl, p, h, hp, rfl⟩
    rcases look k bl h with ⟨rfl, -⟩ | ⟨e, hh⟩
    · rw [Nu.add_self] at hp
      cases hp
      exact .inr hown
    · rw [Nu.add, if_neg e] at hp
      exact .inl ⟨k, bl, p, hh, hp, rfl⟩

theorem St.absorbCel {b : Nat} {us : Array Value} {T : TypeId} {cs : List AV} (hs : St w0 (Mem ν m :: Cel b us T :: L) w) (hu : vals (ν.add m.next (b, 0)) cs = some us.toList) :
    St w0 (Mem (ν.add m.next (b, 0)) (m.new (.cells cs)) :: L) w :=
  (St.absorbG (b := b) (c := 0) (blk := .cells cs) hs rfl fun ⟨fr, h1, h2⟩ => ⟨_, h1, us.toList, T, fr, hu, by simp, by simpa using h2⟩).1
theorem St.absorbMap {b : Nat} {l : Array MapEntry} {es : List (Value × AV × Nat)} {clk : Nat} (hs : St w0 (Mem ν m :: Go.Sx.Blk b (.map l clk) :: L) w) (hu : valEs (ν.add m.next (b, 0)) es = some l.toList) :
    St w0 (Mem (ν.add m.next (b, 0)) (m.new (.map es clk)) :: L) w :=
  (St.absorbG (b := b) (c := 0) (blk := .map es clk) hs rfl fun h => ⟨_, h, l.toList, hu, by simp⟩).1

theorem del_get {id k : Nat} {b : Blk} (h : (m.del id).get k = some b) : k ≠ id ∧ m.get k = some b := by
  rw [get_del] at h
  split at h
  · cases h
  · rename_i e; exact ⟨e, h⟩
/-- One block aside. -/
theorem St.aside {id : Nat} {blk : Blk} (hs : St w0 (Mem ν m :: L) w) (hg : m.get id = some blk) : St w0 (Mem ν ⟨Tr.nil.set id (some blk), m.next⟩ :: Mem ν (m.del id) :: L) w := by
  have one : ∀ k b, (⟨Tr.nil.set id (some blk), m.next⟩ : AM).get k = some b → k = id ∧ b = blk := by
    intro k b h
    have h' : (Tr.nil.set id (some blk)).get k = some b := h
    rw [Tr.get_set] at h'
    split at h'
    · rename_i e; cases h'; exact ⟨e, rfl⟩
    · cases h'
  refine St.split hs (fun k b h => ?_) rfl (fun k b h => ?_) rfl
  · obtain ⟨rfl, rfl⟩ := one k b h
    exact hg
  · obtain ⟨h1, h2⟩ := del_get h
    refine ⟨h2, ?_⟩
    cases hx : (⟨Tr.nil.set id (some blk), m.next⟩ : AM).get k with
    | none => rfl
    | some b' => exact absurd (one k b' hx).1 h1
theorem St.popCel {id : Nat} {cs : List AV} {us : List Value} {p : Nat × Nat} (hs : St w0 (Mem ν m :: L) w) (hg : m.get id = some (.cells cs)) (hu : vals ν cs = some us) (hp : ν id = some p) : ∃ T, St w0 (Mem ν (m.del id) :: Cel p.1 us.toArray T :: L) w := by
  have hs2 := St.aside hs hg
  have hg2 : (⟨Tr.nil.set id (some (.cells cs)), m.next⟩ : AM).get id = some (.cells cs) := by
    show (Tr.nil.set id _).get id = _
    exact Tr.get_set_self _ _ _
  obtain ⟨p', o, h1, h2, vs, T, fr, h3, h4, h5⟩ := (memOK hs2).at_ id _ hg2
  rw [hp] at h1
  cases h1
  rw [hu] at h3
  cases h3
  subst h4
  exact ⟨T, (St.conv (A' := Cel p.1 us.toArray T) hs2 (fun _ => ⟨fr, h2, by simpa using h5⟩) (fun b' hb' => ⟨id, _, p, hg2, hp, (show b' = p.1 from hb').symm⟩)).perm (List.Perm.swap _ _ _)⟩
theorem St.popMap {id clk : Nat} {es : List (Value × AV × Nat)} {l : List MapEntry} {p : Nat × Nat} (hs : St w0 (Mem ν m :: L) w) (hg : m.get id = some (.map es clk)) (hu : valEs ν es = some l) (hp : ν id = some p) : St w0 (Mem ν (m.del id) :: Go.Sx.Blk p.1 (.map l.toArray clk) :: L) w := by
  have hs2 := St.aside hs hg
  have hg2 : (⟨Tr.nil.set id (some (.map es clk)), m.next⟩ : AM).get id = some (.map es clk) := by
    show (Tr.nil.set id _).get id = _
    exact Tr.get_set_self _ _ _
  obtain ⟨p', o, h1, h2, l', h3, h4⟩ := (memOK hs2).at_ id _ hg2
  rw [hp] at h1
  cases h1
  rw [hu] at h3
  cases h3
  subst h4
  exact (St.conv (A' := Go.Sx.Blk p.1 (.map l.toArray clk)) hs2 (fun _ => h2) (fun b' hb' => ⟨id, _, p, hg2, hp, (show b' = p.1 from hb').symm⟩)).perm (List.Perm.swap _ _ _)

/-! Several outcomes, by the reckoner taken apart ahead. -/
variable {plans : Ord} {X : Specs}
noncomputable def execLD (P : Program) (G : Nat → Option (List Value)) (plans : Ord) (X : Specs) (fuel : Nat) : RecL := Nat.rec (fun _ _ _ _ _ => none) (fun n ihL => stepL P G plans X (execD P G plans X n) ihL) fuel
theorem execLD_eq : ∀ n, execLD P G plans X n = execL P G plans X n
  | 0 => rfl
  | n + 1 => by
    rw [execL_succ, ← execLD_eq n, ← execD_eq]
    rfl
noncomputable def bodyLD (P : Program) (G : Nat → Option (List Value)) (plans : Ord) (X : Specs) (n : Nat) (g : FuncId) (fn : Func) (asx : List AV) (m : AM) : R2 :=
  match fn.body with
  | some b => bif Nat.ble asx.length fn.ntmps && noRF b then agreeL (endsL P G fn (execLD P G plans X n g fn.ntmps b (argE 0 asx .nil) m)) else none
  | none => none
noncomputable def specLD (P : Program) (G : Nat → Option (List Value)) (plans : Ord) (X : Specs) (n : Nat) (g : FuncId) (asx : List AV) (m : AM) : R2 :=
  match P.funcs[g]? with
  | some fn => bodyLD P G plans X n g fn asx m
  | none => none
theorem specLD_eq (n : Nat) (g : FuncId) (asx : List AV) (m : AM) : specLD P G plans X n g asx m = specL P G plans X n g asx m := by
  unfold specLD specL bodyLD bodyL
  rw [execLD_eq]
  cases P.funcs[g]? with
  | none => rfl
  | some fn => cases fn.body <;> rfl
end
end Go.Ev
