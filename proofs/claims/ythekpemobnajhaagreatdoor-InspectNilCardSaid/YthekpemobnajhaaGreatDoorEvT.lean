/-
  Ev, part T: a long loop, cut into pieces: a piece (so many rounds from these slots to those, over a part of memory that stays) is known and jumped over. For a function of one loop. Conditions: none beside EvM's.
-/
import Derived.Test.YthekpemobnajhaaGreatDoorEvY
namespace Go.Ev
open Go.Sx
set_option linter.unusedVariables false
set_option linter.unusedSimpArgs false

/-- A piece: found by slot t's number v; these slots, this next name; so many rounds; those slots, that next name. -/
structure Jump where
  t : Nat
  v : Nat
  S : List (Nat × AV)
  nxt : Nat
  cnt : Nat
  S' : List (Nat × AV)
  nxt' : Nat

noncomputable def slotsA (l : List (Nat × AV)) : AE := List.rec .nil (fun e _ ih => ih.set e.1 (some e.2)) l
noncomputable def holdsS (T : AE) (l : List (Nat × AV)) : Bool := List.rec true (fun e _ ih => match T.get e.1 with
  | some a => bif sameA a e.2 then ih else false
  | none => false) l
theorem slotsA_get {k : Nat} {a : AV} : ∀ {l : List (Nat × AV)}, (slotsA l).get k = some a → (k, a) ∈ l
  | [], h => by cases h
  | e :: l, h => by
    have h' : ((slotsA l).set e.1 (some e.2)).get k = some a := h
    rw [Tr.get_set] at h'
    split at h'
    · rename_i he
      cases h'
      rw [he]
      exact List.mem_cons_self ..
    · exact List.mem_cons_of_mem _ (slotsA_get h')
theorem holdsS_get {T : AE} : ∀ {l : List (Nat × AV)}, holdsS T l = true → ∀ e ∈ l, T.get e.1 = some e.2
  | [], _, e, he => by cases he
  | x :: l, h, e, he => by
    have h' : (match T.get x.1 with
      | some a => bif sameA a x.2 then holdsS T l else false
      | none => false) = true := h
    cases hg : T.get x.1 with
    | none => rw [hg] at h'; cases h'
    | some a =>
      rw [hg] at h'
      simp only at h'
      cases hb : sameA a x.2 with
      | false => rw [hb] at h'; cases h'
      | true =>
        rw [hb] at h'
        rcases List.mem_cons.1 he with rfl | he
        · rw [hg, sameA_eq hb]
        · exact holdsS_get h' e he

noncomputable def thenIter (ih : AE → AM → Option (AE × AM)) (r : R3) : Option (AE × AM) :=
  onO (fun q => Prod.rec (motive := fun _ => Option (AE × AM)) (fun e q => Prod.rec (motive := fun _ => Option (AE × AM)) (fun S m => Ex.rec (motive := fun _ => Option (AE × AM)) (ih S m) (fun _ => none) none e) q) q) r
/-- So many rounds. -/
noncomputable def iterR (ih : Rec) (f N : Nat) (b : Code) (k : Nat) : AE → AM → Option (AE × AM) :=
  Nat.rec (fun S m => some (S, m)) (fun _ it S m => thenIter it (ih f N b S m)) k
theorem iterR_succ {ih : Rec} {f N : Nat} {b : Code} {k : Nat} {S : AE} {m : AM} {q : AE × AM} (h : iterR ih f N b (k + 1) S m = some q) : ∃ S1 m1, ih f N b S m = some (.normal, S1, m1) ∧ iterR ih f N b k S1 m1 = some q := by
  have h' : thenIter (iterR ih f N b k) (ih f N b S m) = some q := h
  cases hr : ih f N b S m with
  | none => rw [hr] at h'; cases h'
  | some x =>
    obtain ⟨e, S1, m1⟩ := x
    rw [hr] at h'
    cases e with
    | normal => exact ⟨S1, m1, rfl, h'⟩
    | exit id => cases h'
    | ret => cases h'

noncomputable def jumpB (P : Program) (G : Nat → Option (List Value)) (plans : Ord) (X : Specs) (n f N : Nat) (b : Code) (mem : List (Nat × Blk)) (j : Jump) : Bool :=
  match iterR (execD P G plans X n) f N b j.cnt (slotsA j.S) ⟨lay mem .nil, j.nxt⟩ with
  | some (S', m') => holdsS S' j.S' && Nat.beq m'.next j.nxt' && holdsAll m'.bl mem
  | none => false
noncomputable def findJ (mem : List (Nat × Blk)) (S : AE) (m : AM) (tab : List Jump) : Option Jump := List.rec none (fun j _ ih => match S.get j.t with
  | some (.num _ v) => bif Nat.beq v j.v && Nat.ble 1 j.cnt && Nat.beq m.next j.nxt && holdsS S j.S && holdsAll m.bl mem then some j else ih
  | _ => none) tab
theorem findJ_spec {mem : List (Nat × Blk)} {S : AE} {m : AM} {j : Jump} : ∀ {tab : List Jump}, findJ mem S m tab = some j → j ∈ tab ∧ 1 ≤ j.cnt ∧ m.next = j.nxt ∧ holdsS S j.S = true ∧ holdsAll m.bl mem = true
  | [], h => by cases h
  | x :: tab, h => by
    have h' : (match S.get x.t with
      | some (.num _ v) => bif Nat.beq v x.v && Nat.ble 1 x.cnt && Nat.beq m.next x.nxt && holdsS S x.S && holdsAll m.bl mem then some x else findJ mem S m tab
      | _ => none) = some j := h
    split at h'
    · rename_i v _
      cases hb : (Nat.beq v x.v && Nat.ble 1 x.cnt && Nat.beq m.next x.nxt && holdsS S x.S && holdsAll m.bl mem) with
      | false =>
        rw [hb] at h'
        obtain ⟨h1, h2⟩ := findJ_spec h'
        exact ⟨List.mem_cons_of_mem _ h1, h2⟩
      | true =>
        rw [hb] at h'
        simp only [cond_true, Option.some.injEq] at h'
        subst h'
        simp only [Bool.and_eq_true] at hb
        exact ⟨List.mem_cons_self .., ble_true hb.1.1.1.2, Nat.eq_of_beq_eq_true hb.1.1.2, hb.1.2, hb.2⟩
    · cases h'

section
variable (P : Program) (G : Nat → Option (List Value)) (plans : Ord) (X : Specs) (mem : List (Nat × Blk)) (tab : List Jump)
noncomputable def stepJ (ih ihT : Rec) : Rec := fun f N c S m =>
  match c with
  | .seq a b => seqK ihT f N b (ihT f N a S m)
  | .cond x a b => condK ihT f N a b S m (opnd S x)
  | .block id b => blockK id (ihT f N b S m)
  | .loop b => match findJ mem S m tab with
    | some j => ihT f N c (slotsA j.S') ⟨lay mem .nil, j.nxt'⟩
    | none => seqK ihT f N c (ihT f N b S m)
  | c => ih f N c S m
noncomputable def execJ (fuel : Nat) : Rec := Nat.rec (fun _ _ _ _ _ => none) (fun n ihT => stepJ mem tab (execD P G plans X n) ihT) fuel
end

def loopsOf : Code → List Code
  | .seq a b => loopsOf a ++ loopsOf b
  | .cond _ a b => loopsOf a ++ loopsOf b
  | .block _ b => loopsOf b
  | .loop b => b :: loopsOf b
  | _ => []

section
variable {P : Program} {G : Nat → Option (List Value)} {plans : Ord} {X : Specs} {mem : List (Nat × Blk)} {tab : List Jump} {ν : Nu} {N : Nat} {S S' : AE} {a : Act} {m m' : AM} {w w0 : World} {L : List Asn}

theorem FitsA.less (hf : FitsA [] ν N S a) {S1 : AE} (h : ∀ k x, S1.get k = some x → S.get k = some x) : FitsA [] ν N S1 a :=
  ⟨hf.defers, hf.size, fun k x hx => hf.at_ k x (h k x hx)⟩
theorem slots_less {l : List (Nat × AV)} (h : holdsS S l = true) : ∀ k x, (slotsA l).get k = some x → S.get k = some x := fun k x hx => holdsS_get h _ (slotsA_get hx)
theorem lay_less {T : Tr Blk} {l : List (Nat × Blk)} (h : holdsAll T l = true) : ∀ id b, (lay l .nil).get id = some b → T.get id = some b := fun id b hg => by
  rcases lay_get hg with h1 | h1
  · exact holdsAll_get h _ h1
  · cases h1

theorem cntBound : ∀ tab : List Jump, ∃ B, ∀ j ∈ tab, j.cnt ≤ B
  | [] => ⟨0, fun j hj => by cases hj⟩
  | x :: tab => by
    obtain ⟨B, hB⟩ := cntBound tab
    refine ⟨max x.cnt B, fun j hj => ?_⟩
    rcases List.mem_cons.1 hj with rfl | hj
    · exact Nat.le_max_left _ _
    · exact Nat.le_trans (hB j hj) (Nat.le_max_right _ _)
theorem execJ_succ (n : Nat) : execJ P G plans X mem tab (n + 1) = stepJ mem tab (execD P G plans X n) (execJ P G plans X mem tab n) := rfl

theorem execJ_sound (hX : SpecsOK P G X) (hpl : ∀ g fn b, P.funcs[g]? = some fn → fn.body = some b → OKd plans g b) (hmix : P.follows .mixedOrders = true) {f : FuncId} {bL : Code} (hbL : noRF bL = true) (hdL : OKd plans f bL)
    (hT : ∀ j ∈ tab, ∃ n, jumpB P G plans X n f N bL mem j = true) :
    ∀ n c S m e S' m', execJ P G plans X mem tab n f N c S m = some (e, S', m') → (∀ x ∈ loopsOf c, x = bL) → noRF c = true → OKd plans f c → ∀ ν w0 L w a, GOK G w0 L → FitsA [] ν N S a → St w0 (Mem ν m :: L) w → c.wpIn (WideR none) 0 P (PostO ν w0 L N e S' m') a w := by
  obtain ⟨B, hB⟩ := cntBound tab
  intro n
  induction n using Nat.strongRecOn with
  | _ n IH =>
  intro c S m e S' m' h hl hn hd ν w0 L w a hG hf hs
  cases n with
  | zero => cases h
  | succ n =>
  have ih := IH n (by omega)
  have one : ∀ {c : Code} {e : Ex} {S' : AE} {m' : AM}, execD P G plans X n f N c S m = some (e, S', m') → noRF c = true → OKd plans f c → c.wpIn (WideR none) 0 P (PostO ν w0 L N e S' m') a w := fun h hn hd => exec_soundO hX hpl hmix (by rw [← execD_eq]; exact h) hn hd hG hf hs
  rw [execJ_succ] at h
  cases c with
  | seq x y =>
    simp only [stepJ, seqK] at h
    split at h
    · rename_i e1 S1 m1 h1
      refine wpIn_seq (wpIn_mono (ih x S m e1 S1 m1 h1 (fun z hz => hl z (List.mem_append.2 (.inl hz))) (Bool.and_eq_true_iff.1 hn).1 (fun z hz => hd z (List.mem_append.2 (.inl hz))) ν w0 L w a hG hf hs) fun e' a' w' hq => ?_)
      obtain ⟨he, ν', k1, k2, k3⟩ := hq
      subst he
      split at h
      · exact wpIn_mono (ih y S1 m1 e S' m' h (fun z hz => hl z (List.mem_append.2 (.inr hz))) (Bool.and_eq_true_iff.1 hn).2 (fun z hz => hd z (List.mem_append.2 (.inr hz))) ν' w0 L w' a' hG k2 k3) fun e' a' w' hq => ⟨hq.1, hq.2.elim fun ν'' r => ⟨ν'', Nu.le_trans k1 r.1, r.2⟩⟩
      · rename_i e2 hne
        simp only [Option.some.injEq, Prod.mk.injEq] at h
        obtain ⟨rfl, rfl, rfl⟩ := h
        cases e1 with
        | normal => exact absurd rfl hne
        | exit id => exact ⟨rfl, ν', k1, k2, k3⟩
        | ret => exact ⟨rfl, ν', k1, k2, k3⟩
    · cases h
  | cond x y z =>
    simp only [stepJ, condK] at h
    split at h
    · rename_i t hx
      obtain ⟨v, hv, ex⟩ := hf.op hx
      simp only [AV.val, Option.some.injEq] at hv
      subst hv
      refine wpIn_cond_split ex (fun ht => ?_) (fun ht => ?_)
      · subst ht
        exact ih y S m e S' m' h (fun u hu => hl u (List.mem_append.2 (.inl hu))) (Bool.and_eq_true_iff.1 hn).1 (fun u hu => hd u (List.mem_append.2 (.inl hu))) ν w0 L w a hG hf hs
      · subst ht
        exact ih z S m e S' m' h (fun u hu => hl u (List.mem_append.2 (.inr hu))) (Bool.and_eq_true_iff.1 hn).2 (fun u hu => hd u (List.mem_append.2 (.inr hu))) ν w0 L w a hG hf hs
    · cases h
  | block id x =>
    simp only [stepJ, blockK] at h
    split at h
    · rename_i e1 S1 m1 h1
      refine wpIn_block (wpIn_mono (ih x S m e1 S1 m1 h1 hl hn hd ν w0 L w a hG hf hs) fun e' a' w' hq => ?_)
      obtain ⟨he, ν', k1, k2, k3⟩ := hq
      subst he
      cases e1 with
      | normal =>
        simp only [Option.some.injEq, Prod.mk.injEq] at h
        obtain ⟨rfl, rfl, rfl⟩ := h
        exact ⟨rfl, ν', k1, k2, k3⟩
      | ret =>
        simp only [Option.some.injEq, Prod.mk.injEq] at h
        obtain ⟨rfl, rfl, rfl⟩ := h
        exact ⟨rfl, ν', k1, k2, k3⟩
      | exit id' =>
        simp only at h
        show (if id' = id then PostO ν w0 L N e S' m' .normal a' w' else PostO ν w0 L N e S' m' (.exit id') a' w')
        cases hb : Nat.beq id' id with
        | true =>
          rw [hb] at h
          rw [if_pos (Nat.eq_of_beq_eq_true hb)]
          simp only [cond_true, Option.some.injEq, Prod.mk.injEq] at h
          obtain ⟨rfl, rfl, rfl⟩ := h
          exact ⟨rfl, ν', k1, k2, k3⟩
        | false =>
          rw [hb] at h
          rw [if_neg (Nat.ne_of_beq_eq_false hb)]
          simp only [cond_false, Option.some.injEq, Prod.mk.injEq] at h
          obtain ⟨rfl, rfl, rfl⟩ := h
          exact ⟨rfl, ν', k1, k2, k3⟩
    · cases h
  | loop x =>
    obtain rfl : x = bL := hl x (List.mem_cons_self ..)
    -- so much is left: fuel k, and r rounds of a piece
    refine wpR_loop_ghost (r := none) (T := Nat × Nat) (fun kr a w => kr.1 ≤ n + 1 ∧ kr.2 ≤ B ∧ ((kr.2 = 0 ∧ ∃ S1 m1 ν1, ν.le ν1 ∧ execJ P G plans X mem tab kr.1 f N (.loop x) S1 m1 = some (e, S', m') ∧ FitsA [] ν1 N S1 a ∧ St w0 (Mem ν1 m1 :: L) w) ∨
      (∃ (q : Nat) (S1 : AE) (m1 : AM) (ν1 : Nu) (j : Jump) (S2 : AE) (m2 : AM), ν.le ν1 ∧ iterR (exec P G plans X q) f N x kr.2 S1 m1 = some (S2, m2) ∧ holdsS S2 j.S' = true ∧ m2.next = j.nxt' ∧ holdsAll m2.bl mem = true ∧ execJ P G plans X mem tab kr.1 f N (.loop x) (slotsA j.S') ⟨lay mem .nil, j.nxt'⟩ = some (e, S', m') ∧ 1 ≤ kr.2 ∧ FitsA [] ν1 N S1 a ∧ St w0 (Mem ν1 m1 :: L) w))) (fun kr => kr.1 * (B + 1) + kr.2) ?_ (n + 1, 0) a w ⟨Nat.le_refl _, Nat.zero_le _, .inl ⟨rfl, S, m, ν, Nu.le_refl ν, h, hf, hs⟩⟩
    -- a round of a piece
    have piece : ∀ (k r q : Nat) (S1 : AE) (m1 : AM) (ν1 : Nu) (j : Jump) (S2 : AE) (m2 : AM) (a1 : Act) (w1 : World) (M : Nat), k ≤ n + 1 → r ≤ B → k * (B + 1) + r < M → ν.le ν1 → iterR (exec P G plans X q) f N x (r + 1) S1 m1 = some (S2, m2) → holdsS S2 j.S' = true → m2.next = j.nxt' → holdsAll m2.bl mem = true → execJ P G plans X mem tab k f N (.loop x) (slotsA j.S') ⟨lay mem .nil, j.nxt'⟩ = some (e, S', m') → FitsA [] ν1 N S1 a1 → St w0 (Mem ν1 m1 :: L) w1 →
        x.wpIn (WideR none) 0 P (Exit.then (fun a' w' => ∃ kr : Nat × Nat, kr.1 * (B + 1) + kr.2 < M ∧ (kr.1 ≤ n + 1 ∧ kr.2 ≤ B ∧ ((kr.2 = 0 ∧ ∃ S1 m1 ν1, ν.le ν1 ∧ execJ P G plans X mem tab kr.1 f N (.loop x) S1 m1 = some (e, S', m') ∧ FitsA [] ν1 N S1 a' ∧ St w0 (Mem ν1 m1 :: L) w') ∨
          (∃ (q : Nat) (S1 : AE) (m1 : AM) (ν1 : Nu) (j : Jump) (S2 : AE) (m2 : AM), ν.le ν1 ∧ iterR (exec P G plans X q) f N x kr.2 S1 m1 = some (S2, m2) ∧ holdsS S2 j.S' = true ∧ m2.next = j.nxt' ∧ holdsAll m2.bl mem = true ∧ execJ P G plans X mem tab kr.1 f N (.loop x) (slotsA j.S') ⟨lay mem .nil, j.nxt'⟩ = some (e, S', m') ∧ 1 ≤ kr.2 ∧ FitsA [] ν1 N S1 a' ∧ St w0 (Mem ν1 m1 :: L) w')))) (PostO ν w0 L N e S' m')) a1 w1 := by
      intro k r q S1 m1 ν1 j S2 m2 a1 w1 M hk hr hM k0 hit e1 e2 e3 hx hf1 hs1
      obtain ⟨S3, m3, h3, h4⟩ := iterR_succ hit
      refine wpIn_mono (exec_soundO hX hpl hmix h3 hbL hdL hG hf1 hs1) fun e' a' w' hq => ?_
      obtain ⟨he, ν', j1, j2, j3⟩ := hq
      obtain rfl : Exit.normal = e' := he
      refine ⟨(k, r), hM, hk, hr, ?_⟩
      cases r with
      | zero =>
        have h4' : some (S3, m3) = some (S2, m2) := h4
        simp only [Option.some.injEq, Prod.mk.injEq] at h4'
        obtain ⟨rfl, rfl⟩ := h4'
        exact .inl ⟨rfl, _, _, ν', Nu.le_trans k0 j1, hx, j2.less (slots_less e1), St.shrink j3 (lay_less e3) e2.symm⟩
      | succ r => exact .inr ⟨q, S3, m3, ν', j, S2, m2, Nu.le_trans k0 j1, h4, e1, e2, e3, hx, by omega, j2, j3⟩
    rintro ⟨k, r⟩ a1 w1 ⟨hk, hr, ⟨h0, S1, m1, ν1, k0, h1, k2, k3⟩ | ⟨q, S1, m1, ν1, j, S2, m2, k0, hit, e1, e2, e3, hx, hr1, k2, k3⟩⟩
    · simp only at hk hr h0 h1
      subst h0
      cases k with
      | zero => cases h1
      | succ k =>
        rw [execJ_succ] at h1
        simp only [stepJ] at h1
        split at h1
        · rename_i j hj
          obtain ⟨g1, g2, g3, g4, g5⟩ := findJ_spec hj
          obtain ⟨q, hq⟩ := hT j g1
          unfold jumpB at hq
          rw [execD_eq] at hq
          cases hi : iterR (exec P G plans X q) f N x j.cnt (slotsA j.S) ⟨lay mem .nil, j.nxt⟩ with
          | none => rw [hi] at hq; cases hq
          | some y =>
            obtain ⟨S2, m2⟩ := y
            rw [hi] at hq
            simp only [Bool.and_eq_true] at hq
            obtain ⟨c, hc⟩ : ∃ c, j.cnt = c + 1 := ⟨j.cnt - 1, by omega⟩
            rw [hc] at hi
            have hcB := hB j g1
            refine piece k c q _ _ ν1 j S2 m2 a1 w1 _ (by omega) (by omega) ?_ k0 hi hq.1.1 (Nat.eq_of_beq_eq_true hq.1.2) hq.2 h1 (k2.less (slots_less g4)) (St.shrink k3 (lay_less g5) g3.symm)
            show k * (B + 1) + c < (k + 1) * (B + 1) + 0
            rw [Nat.add_mul]
            omega
        · simp only [seqK] at h1
          split at h1
          · rename_i e2 S2 m2 h2
            refine wpIn_mono (IH k (by omega) x S1 m1 e2 S2 m2 h2 (fun z hz => hl z (List.mem_cons_of_mem _ hz)) hn hd ν1 w0 L w1 a1 hG k2 k3) fun e' a' w' hq => ?_
            obtain ⟨he, ν', j1, j2, j3⟩ := hq
            subst he
            split at h1
            · refine ⟨(k, 0), ?_, by simp only; omega, Nat.zero_le _, .inl ⟨rfl, S2, m2, ν', Nu.le_trans k0 j1, h1, j2, j3⟩⟩
              show k * (B + 1) + 0 < (k + 1) * (B + 1) + 0
              rw [Nat.add_mul]
              omega
            · rename_i e3 hne
              simp only [Option.some.injEq, Prod.mk.injEq] at h1
              obtain ⟨rfl, rfl, rfl⟩ := h1
              cases e2 with
              | normal => exact absurd rfl hne
              | exit id => exact ⟨rfl, ν', Nu.le_trans k0 j1, j2, j3⟩
              | ret => exact ⟨rfl, ν', Nu.le_trans k0 j1, j2, j3⟩
          · cases h1
    · simp only at hk hr hit hx hr1
      obtain ⟨r', rfl⟩ : ∃ r', r = r' + 1 := ⟨r - 1, by omega⟩
      exact piece k r' q S1 m1 ν1 j S2 m2 a1 w1 _ hk (by omega) (by show k * (B + 1) + r' < k * (B + 1) + (r' + 1); omega) k0 hit e1 e2 e3 hx k2 k3
  | skip => exact one h hn hd
  | label l' => exact one h hn hd
  | ret => exact one h hn hd
  | exit id => exact one h hn hd
  | region id ops draw => exact one h hn hd
  | rangeFunc _ _ _ _ => exact one h hn hd
  | scope _ => exact one h hn hd
  | goto _ => exact one h hn hd
  | refuse _ => exact one h hn hd

noncomputable def bodyJ (P : Program) (G : Nat → Option (List Value)) (plans : Ord) (X : Specs) (mem : List (Nat × Blk)) (tab : List Jump) (n : Nat) (g : FuncId) (fn : Func) (asx : List AV) (m : AM) : R2 :=
  match fn.body with
  | some b => bif Nat.ble asx.length fn.ntmps && noRF b then endCall P G fn (execJ P G plans X mem tab n g fn.ntmps b (argE 0 asx .nil) m) else none
  | none => none
/-- A function of one loop, its pieces jumped over. -/
noncomputable def specJ (P : Program) (G : Nat → Option (List Value)) (plans : Ord) (X : Specs) (mem : List (Nat × Blk)) (tab : List Jump) (n : Nat) (g : FuncId) (asx : List AV) (m : AM) : R2 :=
  match P.funcs[g]? with
  | some fn => bodyJ P G plans X mem tab n g fn asx m
  | none => none

theorem specJ_ok (hX : SpecsOK P G X) (hpl : ∀ g fn b, P.funcs[g]? = some fn → fn.body = some b → OKd plans g b) (hmix : P.follows .mixedOrders = true) {g : FuncId} {fn : Func} {b bL : Code} (hfn : P.funcs[g]? = some fn) (hb : fn.body = some b) (hlp : loopsOf b = [bL])
    (hdr : ∀ x ∈ draws bL, x ∈ draws b) (hnL : noRF bL = true) (hT : ∀ j ∈ tab, ∃ n, jumpB P G plans X n g fn.ntmps bL mem j = true) (n : Nat) {asx : List AV} {r : AV} {vs : List Value}
    (h : specJ P G plans X mem tab n g asx m = some (r, m')) (hG : GOK G w0 L) (hvs : vals ν asx = some vs) (hs : St w0 (Mem ν m :: L) w) : Calls P g vs.toArray w (Ret fun v w' => ∃ ν', ν.le ν' ∧ r.val ν' = some v ∧ St w0 (Mem ν' m' :: L) w') := by
  unfold specJ at h
  rw [hfn] at h
  simp only at h
  unfold bodyJ at h
  rw [hb] at h
  simp only at h
  cases hle : (Nat.ble asx.length fn.ntmps && noRF b) with
  | false => rw [hle] at h; cases h
  | true =>
    rw [hle] at h
    have hnr := (Bool.and_eq_true_iff.1 hle).2
    have hle := ble_true (Bool.and_eq_true_iff.1 hle).1
    simp only [cond_true] at h
    cases he : execJ P G plans X mem tab n g fn.ntmps b (argE 0 asx .nil) m with
    | none => rw [he] at h; cases h
    | some q =>
      obtain ⟨e, S2, m2⟩ := q
      rw [he] at h
      have lv := vals_length hvs
      refine (callsIn_wideR (r := none) (n := 0)).1 (callsIn_of_wp_marks hfn hb trivial ?_)
      have hf0 : FitsA [] ν fn.ntmps (argE 0 asx .nil) { tmps := vs.toArray ++ Array.replicate (fn.ntmps - vs.toArray.size) undef, defers := [] } := by
        refine ⟨rfl, by simp; omega, fun k x hx => ?_⟩
        rw [argE_get] at hx
        simp only [Nat.zero_le, true_and, Nat.zero_add, Nat.sub_zero] at hx
        by_cases hk : k < asx.length
        · rw [if_pos hk] at hx
          obtain ⟨v, h1, h2⟩ := vals_get hvs hx
          refine ⟨v, h1, ?_⟩
          simp only [Array.getD_eq_getD_getElem?]
          rw [Array.getElem?_append_left (by simp; omega)]
          simp [h2]
        · rw [if_neg hk] at hx
          cases hx
      have hdb := hpl g fn b hfn hb
      have hwp := execJ_sound (N := fn.ntmps) hX hpl hmix hnL (fun x hx => hdb x (hdr x hx)) hT n b (argE 0 asx .nil) m e S2 m2 he (fun x hx => by rw [hlp] at hx; simpa using hx) hnr hdb ν w0 L w _ hG hf0 hs
      refine wpIn_mono hwp fun e' a' w' hq => ?_
      obtain ⟨he', ν', k1, k2, k3⟩ := hq
      unfold endCall at h
      simp only at h
      have hq2 : (match resA P G m2 S2 fn.results.toList with
        | some l => some (resOf l, m2)
        | none => none) = some (r, m') := by
        cases e with
        | exit id => cases h
        | _ => exact h
      split at hq2
      · rename_i rl hrl
        simp only [Option.some.injEq, Prod.mk.injEq] at hq2
        obtain ⟨rfl, rfl⟩ := hq2
        obtain ⟨v, i1, i2⟩ := results_run (P := P) (fn := fn) k2 k3 hG hrl
        subst he'
        cases e with
        | normal =>
          show LeavesInM _ _ _ _ _ _ a'.defers .returning w'
          rw [k2.defers]
          exact ⟨v, i2, ν', k1, i1, k3⟩
        | ret =>
          show LeavesInM _ _ _ _ _ _ a'.defers .returning w'
          rw [k2.defers]
          exact ⟨v, i2, ν', k1, i1, k3⟩
        | exit id => cases h
      · cases hq2
end
#print axioms specJ_ok
end Go.Ev
