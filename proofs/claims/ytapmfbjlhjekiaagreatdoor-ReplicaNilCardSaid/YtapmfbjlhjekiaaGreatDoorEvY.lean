/-
  Ev, part Y: calls that are known with the part of memory that they touch: each is reckoned by itself, and used where it comes up. Conditions: none beside EvM's.
-/
import Derived.Test.YtapmfbjlhjekiaaGreatDoorEvS
import Derived.Test.YtapmfbjlhjekiaaGreatDoorEvX
namespace Go.Ev
open Go.Sx
set_option linter.unusedVariables false
set_option linter.unusedSimpArgs false

/-- A call: what it is given, the blocks that it touches, the next name; what it gives, and these blocks behind it. -/
structure Key where
  g : FuncId
  args : List AV
  mem : List (Nat × Blk)
  nxt : Nat
  res : AV
  mem' : List (Nat × Blk)
  nxt' : Nat

noncomputable def lay (l : List (Nat × Blk)) (T : Tr Blk) : Tr Blk := List.rec T (fun e _ ih => ih.set e.1 (some e.2)) l
noncomputable def wipe (l : List (Nat × Blk)) (T : Tr Blk) : Tr Blk := List.rec T (fun e _ ih => ih.set e.1 none) l
noncomputable def holdsAll (T : Tr Blk) (l : List (Nat × Blk)) : Bool := List.rec true (fun e _ ih => match T.get e.1 with
  | some b => bif sameBlk b e.2 then ih else false
  | none => false) l

theorem lay_get {T : Tr Blk} {id : Nat} {b : Blk} : ∀ {l : List (Nat × Blk)}, (lay l T).get id = some b → (id, b) ∈ l ∨ T.get id = some b
  | [], h => .inr h
  | e :: l, h => by
    have h' : ((lay l T).set e.1 (some e.2)).get id = some b := h
    rw [Tr.get_set] at h'
    split at h'
    · rename_i he
      cases h'
      exact .inl (by rw [he]; exact List.mem_cons_self ..)
    · rcases lay_get h' with h1 | h1
      · exact .inl (List.mem_cons_of_mem _ h1)
      · exact .inr h1
theorem wipe_get {T : Tr Blk} {id : Nat} {b : Blk} : ∀ {l : List (Nat × Blk)}, (wipe l T).get id = some b → T.get id = some b ∧ ∀ e ∈ l, e.1 ≠ id
  | [], h => ⟨h, fun e he => by cases he⟩
  | e :: l, h => by
    have h' : ((wipe l T).set e.1 none).get id = some b := h
    rw [Tr.get_set] at h'
    split at h'
    · cases h'
    · rename_i he
      obtain ⟨h1, h2⟩ := wipe_get h'
      refine ⟨h1, fun x hx => ?_⟩
      rcases List.mem_cons.1 hx with rfl | hx
      · exact fun e' => he e'.symm
      · exact h2 x hx
theorem holdsAll_get {T : Tr Blk} : ∀ {l : List (Nat × Blk)}, holdsAll T l = true → ∀ e ∈ l, T.get e.1 = some e.2
  | [], _, e, he => by cases he
  | x :: l, h, e, he => by
    have h' : (match T.get x.1 with
      | some b => bif sameBlk b x.2 then holdsAll T l else false
      | none => false) = true := h
    cases hg : T.get x.1 with
    | none => rw [hg] at h'; cases h'
    | some b =>
      rw [hg] at h'
      simp only at h'
      cases hb : sameBlk b x.2 with
      | false => rw [hb] at h'; cases h'
      | true =>
        rw [hb] at h'
        rcases List.mem_cons.1 he with rfl | he
        · rw [hg, sameBlk_eq hb]
        · exact holdsAll_get h' e he

section
variable {P : Program} {G : Nat → Option (List Value)} {plans : Ord} {X : Specs}

noncomputable def behind (e : Key) (m : AM) : AM := ⟨lay e.mem' (wipe e.mem m.bl), e.nxt'⟩
/-- A call that is known. -/
def KeyOK (P : Program) (G : Nat → Option (List Value)) (e : Key) : Prop := ∀ (ν : Nu) (m : AM) (w w0 : World) (L : List Asn) (vs : List Value), GOK G w0 L → vals ν e.args = some vs → St w0 (Mem ν m :: L) w → m.next = e.nxt → holdsAll m.bl e.mem = true →
  Calls P e.g vs.toArray w (Ret fun v w' => ∃ ν', ν.le ν' ∧ e.res.val ν' = some v ∧ St w0 (Mem ν' (behind e m) :: L) w')
noncomputable def knownB (P : Program) (G : Nat → Option (List Value)) (plans : Ord) (X : Specs) (n : Nat) (e : Key) : Bool :=
  match callK P G X (execD P G plans X n) e.g e.args ⟨lay e.mem .nil, e.nxt⟩ with
  | some (r, m') => sameR r e.res && Nat.beq m'.next e.nxt' && holdsAll m'.bl e.mem'
  | none => false

theorem KeyOK.of (hX : SpecsOK P G X) (hpl : ∀ g fn b, P.funcs[g]? = some fn → fn.body = some b → OKd plans g b) (hmix : P.follows .mixedOrders = true) (n : Nat) {e : Key} (hen : enters P e.g = true) (h : knownB P G plans X n e = true) : KeyOK P G e := by
  intro ν m w w0 L vs hG hv hs hn hm
  unfold knownB at h
  rw [execD_eq] at h
  cases hc : callK P G X (exec P G plans X n) e.g e.args ⟨lay e.mem .nil, e.nxt⟩ with
  | none => rw [hc] at h; cases h
  | some q =>
    obtain ⟨r, m'⟩ := q
    rw [hc] at h
    simp only [Bool.and_eq_true] at h
    obtain ⟨⟨h1, h2⟩, h3⟩ := h
    have hr := sameR_eq h1
    have hn' := Nat.eq_of_beq_eq_true h2
    have hh := holdsAll_get hm
    have k1 : ∀ id b, (⟨lay e.mem .nil, e.nxt⟩ : AM).get id = some b → (id, b) ∈ e.mem := fun id b hg => by
      rcases lay_get hg with h | h
      · exact h
      · cases h
    have hs2 : St w0 (Mem ν ⟨lay e.mem .nil, e.nxt⟩ :: Mem ν ⟨wipe e.mem m.bl, m.next⟩ :: L) w := by
      refine St.split hs (fun id b hg => hh _ (k1 id b hg)) hn.symm (fun id b hg => ?_) rfl
      obtain ⟨g1, g2⟩ := wipe_get hg
      refine ⟨g1, ?_⟩
      cases hx : (⟨lay e.mem .nil, e.nxt⟩ : AM).get id with
      | none => rfl
      | some b' => exact absurd rfl (g2 _ (k1 id b' hx))
    refine Calls.ret (callK_sound hX hpl hmix n hen hc (hG.frame _) hv hs2) ?_
    rintro v w' ⟨ν', j1, j2, j3⟩
    refine ⟨ν', j1, by rw [← hr]; exact j2, St.join j3 j1 (fun id b hg => ?_) hn'.symm⟩
    rcases lay_get hg with h | h
    · exact .inl (holdsAll_get h3 _ h)
    · exact .inr h

noncomputable def lookM (g : FuncId) (asx : List AV) (m : AM) (tab : List Key) : Option (AV × AM) :=
  List.rec none (fun e _ ih => bif Nat.beq m.next e.nxt && Nat.beq e.g g && sameAs asx e.args && holdsAll m.bl e.mem then some (e.res, behind e m) else ih) tab
theorem lookM_spec {g : FuncId} {asx : List AV} {m : AM} {q : AV × AM} : ∀ {tab : List Key}, lookM g asx m tab = some q → ∃ e ∈ tab, m.next = e.nxt ∧ e.g = g ∧ asx = e.args ∧ holdsAll m.bl e.mem = true ∧ q = (e.res, behind e m)
  | [], h => by cases h
  | e :: tab, h => by
    have h' : (bif Nat.beq m.next e.nxt && Nat.beq e.g g && sameAs asx e.args && holdsAll m.bl e.mem then some (e.res, behind e m) else lookM g asx m tab) = some q := h
    cases hb : (Nat.beq m.next e.nxt && Nat.beq e.g g && sameAs asx e.args && holdsAll m.bl e.mem) with
    | false =>
      rw [hb] at h'
      obtain ⟨x, hx, r⟩ := lookM_spec h'
      exact ⟨x, List.mem_cons_of_mem _ hx, r⟩
    | true =>
      rw [hb] at h'
      simp only [cond_true, Option.some.injEq] at h'
      simp only [Bool.and_eq_true] at hb
      exact ⟨e, List.mem_cons_self .., Nat.eq_of_beq_eq_true hb.1.1.1, Nat.eq_of_beq_eq_true hb.1.1.2, sameAs_eq hb.1.2, hb.2, h'.symm⟩

def anyKey (g : FuncId) (tab : List Key) : Bool := tab.any fun e => Nat.beq e.g g
/-- What is known, and what is not is walked. -/
noncomputable def withKeys (P : Program) (G : Nat → Option (List Value)) (plans : Ord) (X : Specs) (n : Nat) (tab : List Key) : Specs := fun g =>
  match anyKey g tab with
  | true => some fun asx m => match lookM g asx m tab with
    | some r => some r
    | none => match enters P g with
      | true => callK P G X (execD P G plans X n) g asx m
      | false => none
  | false => X g
theorem withKeys_ok (hX : SpecsOK P G X) (hpl : ∀ g fn b, P.funcs[g]? = some fn → fn.body = some b → OKd plans g b) (hmix : P.follows .mixedOrders = true) (n : Nat) {tab : List Key} (h : ∀ e ∈ tab, KeyOK P G e) : SpecsOK P G (withKeys P G plans X n tab) := by
  intro g f hf asx m r m' ν vs w w0 L hr hG hv hs
  unfold withKeys at hf
  cases hk : anyKey g tab with
  | false => rw [hk] at hf; exact hX g f hf asx m r m' ν vs w w0 L hr hG hv hs
  | true =>
    rw [hk] at hf
    simp only [Option.some.injEq] at hf
    subst hf
    simp only at hr
    cases hl : lookM g asx m tab with
    | some q =>
      rw [hl] at hr
      simp only [Option.some.injEq] at hr
      obtain ⟨e, he, h1, h2, h3, h4, h5⟩ := lookM_spec hl
      rw [hr] at h5
      cases h5
      subst h3
      rw [← h2]
      exact h e he ν m w w0 L vs hG hv hs h1 h4
    | none =>
      rw [hl] at hr
      simp only at hr
      cases hen : enters P g with
      | false => rw [hen] at hr; cases hr
      | true =>
        rw [hen, execD_eq] at hr
        exact callK_sound hX hpl hmix n hen hr hG hv hs
end
#print axioms withKeys_ok
end Go.Ev
