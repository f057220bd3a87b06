/-
  Ev, part N: WHAT LEAVES MORE THAN ONE WAY OPEN: a map's range with several entries left. Lists of outcomes; a call whose outcomes agree is a Spec. Conditions: none beside EvM's.
-/
import Derived.Test.YtapmfbjlhjekiaaGreatDoorEvM
import Derived.Maps.RangeRun
namespace Go.Ev
open Go.Sx
set_option linter.unusedVariables false
set_option linter.unusedSimpArgs false

def catAll {α β : Type} (f : α → Option (List β)) : List α → Option (List β)
  | [] => some []
  | a :: l => match f a with
    | some b => match catAll f l with
      | some bs => some (b ++ bs)
      | none => none
    | none => none

theorem catAll_spec {α β : Type} {f : α → Option (List β)} : ∀ {l : List α} {r : List β}, catAll f l = some r → ∀ a ∈ l, ∃ bs, f a = some bs ∧ ∀ b ∈ bs, b ∈ r
  | [], r, h, a, ha => by cases ha
  | x :: l, r, h, a, ha => by
    simp only [catAll] at h
    split at h
    · rename_i b hb
      split at h
      · rename_i bs hbs
        simp only [Option.some.injEq] at h
        subst h
        rcases List.mem_cons.1 ha with rfl | ha
        · exact ⟨b, hb, fun y hy => List.mem_append.2 (.inl hy)⟩
        · obtain ⟨cs, h1, h2⟩ := catAll_spec hbs a ha
          exact ⟨cs, h1, fun y hy => List.mem_append.2 (.inr (h2 y hy))⟩
      · cases h
    · cases h

/-- Every entry that may come next. -/
noncomputable def nextAll (m : AM) (id : Nat) : Option (List (AV × AM)) :=
  match m.get id with
  | some (.iter mid since seen last) => match m.get mid with
    | some (.map es clock) =>
      bif es.all (fun e => Nat.ble (e.2.2 + 1) since) && Nat.ble since last then
        match es.filter fun e => !seen.contains e.2.2 with
        | [] => some [(.tup [.bool false], m)]
        | left => some (left.map fun e => (.tup [.bool true, lift e.1, e.2.1], m.set id (.iter mid since (seen ++ [e.2.2]) clock)))
      else none
    | _ => none
  | _ => none

section
variable {P : Program} {G : Nat → Option (List Value)} {ν : Nu} {N : Nat} {S S' : AE} {a : Act} {m m' : AM} {w w0 : World} {L : List Asn}

theorem valEs_mem : ∀ {es : List (Value × AV × Nat)} {l : List MapEntry}, valEs ν es = some l → ∀ x ∈ l, ∃ e ∈ es, x.key = e.1 ∧ e.2.1.val ν = some x.val ∧ x.born = e.2.2
  | [], l, h, x, hx => by simp only [valEs, Option.some.injEq] at h; subst h; cases hx
  | e :: es, l, h, x, hx => by
    simp only [valEs] at h
    split at h
    · rename_i v vs hv hvs
      simp only [Option.some.injEq] at h
      subst h
      rcases List.mem_cons.1 hx with rfl | hx
      · exact ⟨e, List.mem_cons_self .., rfl, hv, rfl⟩
      · obtain ⟨e', h1, h2⟩ := valEs_mem hvs x hx
        exact ⟨e', List.mem_cons_of_mem _ h1, h2⟩
    · cases h

theorem nextAll_sound (hs : St w0 (Mem ν m :: L) w) {o : Oper} {x : Operand} (ho : o.op = .next x false) {ρ : Operand → Value} {id : Nat} (hx : (AV.ptr id 0).val ν = some (ρ x)) {l : List (AV × AM)} (h : nextAll m id = some l) :
    ∃ r ∈ l, Eff P ν w0 L r.2 (execOp ρ o) w r.1 := by
  have hm := memOK hs
  obtain ⟨p, hp, hv⟩ := ptr_val hx
  unfold nextAll at h
  split at h
  · rename_i mid since seen last hg
    obtain ⟨p', ob, hp', hb, q, hq, rfl⟩ := hm.at_ id _ hg
    rw [hp] at hp'
    cases hp'
    split at h
    · rename_i es clock hg2
      obtain ⟨q', k, hq', hl, hb2⟩ := map_at hm hg2
      rw [hq] at hq'
      cases hq'
      cases hc : (es.all (fun e => Nat.ble (e.2.2 + 1) since) && Nat.ble since last) with
      | false => rw [hc] at h; cases h
      | true =>
        rw [hc] at h
        simp only [cond_true] at h
        rw [Bool.and_eq_true] at hc
        have hold : ∀ y ∈ k.toArray.toList, y.born < since := by
          intro y hy
          obtain ⟨e, h1, _, _, h2⟩ := valEs_mem hl y (by simpa using hy)
          have := ble_true (List.all_eq_true.1 hc.1 e h1)
          omega
        have hleft : (leftOf k.toArray seen.toArray).toList = k.filter fun e => !seen.contains e.born := by
          unfold leftOf
          simp
        have hv2 := valEs_filter hl (fun n => !seen.contains n)
        rcases run_next_at (P := P) w o.type p.1 q.1 since last seen.toArray k.toArray clock hb hb2 hold (ble_true hc.2) with ⟨hz, hr⟩ | ⟨e, he, w1, hw1, hr⟩
        · have hz2 : (k.filter fun e => !seen.contains e.born) = [] := by
            rw [← hleft]
            exact Array.toList_eq_nil_iff.2 (Array.eq_empty_of_size_eq_zero hz)
          have hfl : (es.filter fun e => !seen.contains e.2.2) = [] := by
            rw [hz2] at hv2
            have := valEs_length hv2
            exact List.length_eq_zero_iff.1 (by simpa using this.symm)
          rw [hfl] at h
          simp only [Option.some.injEq] at h
          subst h
          refine ⟨_, List.mem_cons_self .., _, ν, w, Nu.le_refl ν, by simp only [AV.val, vals]; rfl, hs, .inl ?_⟩
          simp only [execOp, ho, hv, Sem.run_bind, hr, Result.andThen_ok]
          simp [Sem.run]
        · rw [hleft] at he
          obtain ⟨e', h1, h2, h3, h4⟩ := valEs_mem hv2 e he
          have hl2 : l = ((es.filter fun e => !seen.contains e.2.2).map fun e => (.tup [.bool true, lift e.1, e.2.1], m.set id (.iter mid since (seen ++ [e.2.2]) clock))) := by
            split at h
            · rename_i hn
              rw [hn] at h1
              cases h1
            · simp only [Option.some.injEq] at h
              exact h.symm
          subst hl2
          refine ⟨_, List.mem_map.2 ⟨e', h1, rfl⟩, .tuple #[.bool true, e.key, e.val], ν, ChangeMaps.setBlock w1 p.1 (.mapIter (some q.1) since (seen.toArray.push e.born) clock), Nu.le_refl ν, ?_, ?_, .inl ?_⟩
          · simp only [AV.val, vals, lift_val, h3, h2]
          · have hs1 : St w0 (Mem ν m :: L) w1 := by
              rcases hw1 with rfl | rfl
              · exact hs
              · exact hs.drew
            have := St.mSet hs1 hg hp (blk' := .iter mid since (seen ++ [e'.2.2]) clock) (.mapIter (some q.1) since (seen ++ [e'.2.2]).toArray clock) ⟨q, hq, rfl⟩
            rw [h4]
            simpa [ChangeMaps.setBlock, List.push_toArray] using this
          · simp only [execOp, ho, hv, Sem.run_bind, hr, Result.andThen_ok]
            simp [Sem.run]
    · cases h
  · cases h
end

abbrev Outs := Option (List (Ex × AE × AM))
abbrev RecL := FuncId → Nat → Code → AE → AM → Outs

def startsNext (ops : List Oper) : Bool :=
  match ops with
  | o :: _ => match o.op, o.guard with
    | .next _ false, none => true
    | _, _ => false
  | [] => false

def oneL (r : R3) : Outs := match r with | some o => some [o] | none => none

def thenL (ih : RecL) (f : FuncId) (N : Nat) (b : Code) (r : Outs) : Outs :=
  match r with
  | some l => catAll (fun o => match o.1 with | .normal => ih f N b o.2.1 o.2.2 | _ => some [o]) l
  | none => none

def blockL (id : Nat) (r : Outs) : Outs :=
  match r with
  | some l => some (l.map fun o => match o.1 with
    | .exit id' => bif Nat.beq id' id then (.normal, o.2) else o
    | _ => o)
  | none => none

def condL (ih : RecL) (f : FuncId) (N : Nat) (a b : Code) (S : AE) (m : AM) (x : Option AV) : Outs :=
  match x with
  | some (.bool t) => match t with
    | true => ih f N a S m
    | false => ih f N b S m
  | _ => none

section
variable (P : Program) (G : Nat → Option (List Value)) (plans : Ord) (X : Specs)

noncomputable def regionL (call : FuncId → List AV → AM → R2) (N : Nat) (ops : List Oper) (S : AE) (m : AM) : Outs :=
  match ops with
  | o :: rest => match o.op, o.guard with
    | .next x false, none => match opnd S x with
      | some (.ptr i 0) => match nextAll m i with
        | some l => catAll (fun r => match putA N S o.dst r.1 with
          | some S1 => oneL (nrm (runOps P G call N ops rest S1 r.2))
          | none => none) l
        | none => none
      | _ => none
    | _, _ => none
  | [] => none

noncomputable def stepL (ih : Rec) (ihL : RecL) : RecL := fun f N c S m =>
  match c with
  | .seq a b => thenL ihL f N b (ihL f N a S m)
  | .cond x a b => condL ihL f N a b S m (opnd S x)
  | .block id b => blockL id (ihL f N b S m)
  | .loop b => thenL ihL f N c (ihL f N b S m)
  | .region id ops draw => bif !draw && startsNext ops.toList then regionL P G (callK2 P G plans X ih) N ops.toList S m else oneL (ih f N c S m)
  | _ => oneL (ih f N c S m)

/-- What a body's code may do. -/
noncomputable def execL (fuel : Nat) : RecL := Nat.rec (fun _ _ _ _ _ => none) (fun n ihL => stepL P G plans X (exec P G plans X n) ihL) fuel
end

section
variable {P : Program} {G : Nat → Option (List Value)} {ν : Nu} {N : Nat} {S S' : AE} {a : Act} {m m' : AM} {w w0 : World} {L : List Asn} {plans : Ord} {X : Specs}

theorem execL_succ (n : Nat) : execL P G plans X (n + 1) = stepL P G plans X (exec P G plans X n) (execL P G plans X n) := rfl

/-- Without a range over a function. -/
def PostO (ν : Nu) (w0 : World) (L : List Asn) (N : Nat) (e : Ex) (S' : AE) (m' : AM) : Exit → Act → World → Prop := fun e' a' w' => toExit e = e' ∧ ∃ ν', ν.le ν' ∧ FitsA [] ν' N S' a' ∧ St w0 (Mem ν' m' :: L) w'
theorem exec_soundO (hX : SpecsOK P G X) (hpl : ∀ g fn b, P.funcs[g]? = some fn → fn.body = some b → OKd plans g b) (hmix : P.follows .mixedOrders = true) {n : Nat} {f : FuncId} {c : Code} {e : Ex} (h : exec P G plans X n f N c S m = some (e, S', m')) (hn : noRF c = true)
    (hd : OKd plans f c) (hG : GOK G w0 L) (hf : FitsA [] ν N S a) (hs : St w0 (Mem ν m :: L) w) : c.wpIn (WideR none) 0 P (PostO ν w0 L N e S' m') a w := by
  refine wpIn_mono (exec_soundR hX hpl hmix n f N c S m e S' m' h hd none (.inl rfl) [] ν w0 L w a hG hf hs) ?_
  rintro e' a' w' ⟨h1, ν', Ds, h2, h3, h4, h5⟩
  obtain rfl := h2 hn
  exact ⟨h1, ν', h3, h4, h5⟩

def PostL (ν : Nu) (w0 : World) (L : List Asn) (N : Nat) (l : List (Ex × AE × AM)) : Exit → Act → World → Prop := fun e' a' w' => ∃ o ∈ l, PostO ν w0 L N o.1 o.2.1 o.2.2 e' a' w'

theorem PostL.mono {l l' : List (Ex × AE × AM)} (h : ∀ o ∈ l, o ∈ l') {ν' : Nu} (hle : ν.le ν') {e : Exit} {a' : Act} {w' : World} (hp : PostL ν' w0 L N l e a' w') : PostL ν w0 L N l' e a' w' := by
  obtain ⟨o, ho, h1, ν'', h2, h3⟩ := hp
  exact ⟨o, h o ho, h1, ν'', Nu.le_trans hle h2, h3⟩

theorem one_sound (hX : SpecsOK P G X) (hpl : ∀ g fn b, P.funcs[g]? = some fn → fn.body = some b → OKd plans g b) (hmix : P.follows .mixedOrders = true) {n : Nat} {f : FuncId} {c : Code} {l : List (Ex × AE × AM)} (h : oneL (exec P G plans X n f N c S m) = some l)
    (hn : noRF c = true) (hd : OKd plans f c) (hG : GOK G w0 L) (hf : FitsA [] ν N S a) (hs : St w0 (Mem ν m :: L) w) : c.wpIn (WideR none) 0 P (PostL ν w0 L N l) a w := by
  unfold oneL at h
  split at h
  · rename_i o ho
    simp only [Option.some.injEq] at h
    subst h
    obtain ⟨e, S', m'⟩ := o
    exact wpIn_mono (exec_soundO hX hpl hmix ho hn hd hG hf hs) fun e' a' w' hq => ⟨_, List.mem_cons_self .., hq⟩
  · cases h

/-- WHAT THE LISTS SAY OF A BODY's CODE. -/
theorem execL_sound (hX : SpecsOK P G X) (hpl : ∀ g fn b, P.funcs[g]? = some fn → fn.body = some b → OKd plans g b) (hmix : P.follows .mixedOrders = true) :
    ∀ n f N c S m l, execL P G plans X n f N c S m = some l → noRF c = true → OKd plans f c → ∀ ν w0 L w a, GOK G w0 L → FitsA [] ν N S a → St w0 (Mem ν m :: L) w → c.wpIn (WideR none) 0 P (PostL ν w0 L N l) a w := by
  intro n
  induction n using Nat.strongRecOn with
  | _ n IH =>
  intro f N c S m l h hn hd ν w0 L w a hG hf hs
  cases n with
  | zero => cases h
  | succ n =>
  have ih := IH n (by omega)
  rw [execL_succ] at h
  cases c with
  | seq x y =>
    simp only [stepL, thenL] at h
    split at h
    · rename_i l1 h1
      have w1 := ih f N x S m l1 h1 (Bool.and_eq_true_iff.1 hn).1 (fun z hz => hd z (List.mem_append.2 (.inl hz))) ν w0 L w a hG hf hs
      refine wpIn_seq (wpIn_mono w1 fun e' a' w' hq => ?_)
      obtain ⟨⟨e1, S1, m1⟩, ho, he, ν', k1, k2, k3⟩ := hq
      obtain ⟨bs, h2, h3⟩ := catAll_spec h _ ho
      simp only at he h2 k2 k3
      subst he
      cases e1 with
      | normal => exact wpIn_mono (ih f N y S1 m1 bs h2 (Bool.and_eq_true_iff.1 hn).2 (fun z hz => hd z (List.mem_append.2 (.inr hz))) ν' w0 L w' a' hG k2 k3) fun e' a' w' hq => hq.mono h3 k1
      | exit id =>
        simp only [Option.some.injEq] at h2
        subst h2
        exact ⟨_, h3 _ (List.mem_cons_self ..), rfl, ν', k1, k2, k3⟩
      | ret =>
        simp only [Option.some.injEq] at h2
        subst h2
        exact ⟨_, h3 _ (List.mem_cons_self ..), rfl, ν', k1, k2, k3⟩
    · cases h
  | cond x y z =>
    simp only [stepL, condL] at h
    split at h
    · rename_i t hx
      obtain ⟨v, hv, ex⟩ := hf.op hx
      simp only [AV.val, Option.some.injEq] at hv
      subst hv
      refine wpIn_cond_split ex (fun ht => ?_) (fun ht => ?_)
      · subst ht
        exact ih f N y S m l h (Bool.and_eq_true_iff.1 hn).1 (fun u hu => hd u (List.mem_append.2 (.inl hu))) ν w0 L w a hG hf hs
      · subst ht
        exact ih f N z S m l h (Bool.and_eq_true_iff.1 hn).2 (fun u hu => hd u (List.mem_append.2 (.inr hu))) ν w0 L w a hG hf hs
    · cases h
  | block id x =>
    simp only [stepL, blockL] at h
    split at h
    · rename_i l1 h1
      simp only [Option.some.injEq] at h
      subst h
      have w1 := ih f N x S m l1 h1 hn hd ν w0 L w a hG hf hs
      refine wpIn_block (wpIn_mono w1 fun e' a' w' hq => ?_)
      obtain ⟨⟨e1, S1, m1⟩, ho, he, ν', k1, k2, k3⟩ := hq
      simp only at he k2 k3
      subst he
      cases e1 with
      | normal => exact ⟨_, List.mem_map.2 ⟨_, ho, rfl⟩, rfl, ν', k1, k2, k3⟩
      | ret => exact ⟨_, List.mem_map.2 ⟨_, ho, rfl⟩, rfl, ν', k1, k2, k3⟩
      | exit id' =>
        show (if id' = id then PostL ν w0 L N _ .normal a' w' else PostL ν w0 L N _ (.exit id') a' w')
        cases hb : Nat.beq id' id with
        | true =>
          rw [if_pos (Nat.eq_of_beq_eq_true hb)]
          refine ⟨_, List.mem_map.2 ⟨_, ho, rfl⟩, ?_⟩
          simp only [hb, cond_true]
          exact ⟨rfl, ν', k1, k2, k3⟩
        | false =>
          rw [if_neg (Nat.ne_of_beq_eq_false hb)]
          refine ⟨_, List.mem_map.2 ⟨_, ho, rfl⟩, ?_⟩
          simp only [hb, cond_false]
          exact ⟨rfl, ν', k1, k2, k3⟩
    · cases h
  | loop x =>
    refine wpR_loop_ghost (r := none) (T := Nat) (fun k a w => k ≤ n + 1 ∧ ∃ S1 m1 ν1 l1, ν.le ν1 ∧ execL P G plans X k f N (.loop x) S1 m1 = some l1 ∧ (∀ o ∈ l1, o ∈ l) ∧ FitsA [] ν1 N S1 a ∧ St w0 (Mem ν1 m1 :: L) w) id ?_ (n + 1) a w ⟨Nat.le_refl _, S, m, ν, l, Nu.le_refl ν, h, fun _ h => h, hf, hs⟩
    rintro k a1 w1 ⟨hk, S1, m1, ν1, l1, k0, h1, hsub, k2, k3⟩
    cases k with
    | zero => cases h1
    | succ k =>
      rw [execL_succ] at h1
      simp only [stepL, thenL] at h1
      split at h1
      · rename_i l2 h2
        have w2 := IH k (by omega) f N x S1 m1 l2 h2 hn hd ν1 w0 L w1 a1 hG k2 k3
        refine wpIn_mono w2 fun e' a' w' hq => ?_
        obtain ⟨⟨e2, S2, m2⟩, ho, he, ν', j1, j2, j3⟩ := hq
        obtain ⟨bs, h3, h4⟩ := catAll_spec h1 _ ho
        simp only at he h3 j2 j3
        subst he
        cases e2 with
        | normal => exact ⟨k, Nat.lt_succ_self k, by omega, S2, m2, ν', bs, Nu.le_trans k0 j1, h3, fun o ho => hsub o (h4 o ho), j2, j3⟩
        | exit id =>
          simp only [Option.some.injEq] at h3
          subst h3
          exact ⟨_, hsub _ (h4 _ (List.mem_cons_self ..)), rfl, ν', Nu.le_trans k0 j1, j2, j3⟩
        | ret =>
          simp only [Option.some.injEq] at h3
          subst h3
          exact ⟨_, hsub _ (h4 _ (List.mem_cons_self ..)), rfl, ν', Nu.le_trans k0 j1, j2, j3⟩
      · cases h1
  | region id ops draw =>
    simp only [stepL] at h
    cases hb : (!draw && startsNext ops.toList) with
    | false =>
      rw [hb] at h
      exact one_sound hX hpl hmix h hn hd hG hf hs
    | true =>
      rw [hb] at h
      simp only [cond_true] at h
      rw [Bool.and_eq_true] at hb
      obtain rfl : draw = false := by simpa using hb.1
      have hcall := call2_ok (callK_okR hX hpl (exec_soundR hX hpl hmix n))
      have hround := round_ok (exec_soundR hX hpl hmix n)
      refine wpIn_region ?_
      unfold regionL at h
      split at h
      · rename_i o rest hops
        split at h
        · rename_i x ho hgd
          split at h
          · rename_i i hx
            split at h
            · rename_i outs hall
              have hi : ops[0]? = some o := by
                have : ops.toList[0]? = some o := by rw [hops]; rfl
                simpa using this
              have hlen : ops.size = rest.length + 1 := by
                have : ops.toList.length = rest.length + 1 := by rw [hops]; rfl
                simpa using this
              rw [List.range_eq_range', hlen, List.range'_succ, wpOpsIn_cons]
              unfold wpOpIn
              simp only [hi]
              have hw : Region.wanted o (yielded ops a.tmps) = true := by
                unfold Region.wanted
                rw [hgd]
              rw [hw]
              simp only [if_true]
              obtain ⟨v0, hv0, ev0⟩ := hf.op hx
              obtain ⟨⟨av, m1⟩, hr, v, ν', w', e1, e2, e3, e4⟩ := nextAll_sound (P := P) hs ho (ρ := a.eval) (by rw [ev0]; exact hv0) hall
              have hfin : ∀ (hput : putA N S o.dst av = none → False), True := fun _ => trivial
              obtain ⟨bs, h5, h6⟩ := catAll_spec h _ hr
              simp only at h5 e2 e3
              split at h5
              · rename_i S1 hput
                have K : wpOpsIn (WideR none) 0 P ops (PostL ν w0 L N l) (List.range' 1 rest.length) (a.put o.dst v) w' := by
                  unfold oneL nrm at h5
                  split at h5
                  · rename_i o2 ho2
                    split at ho2
                    · rename_i S2 m2 hro
                      simp only [Option.some.injEq] at h5 ho2
                      subst h5
                      subst ho2
                      exact runOps_wp hcall hround hG rest 1 S1 m1 ν' w' (a.put o.dst v) (by rw [hops]; rfl) hro ((hf.mono e1).put e2 hput) e3 fun ν'' w'' a'' j1 j2 j3 => ⟨_, h6 _ (List.mem_cons_self ..), rfl, ν'', Nu.le_trans e1 j1, j2, j3⟩
                    · cases ho2
                  · cases h5
                refine Oper.wpIn_of_wp (fun c hc => by rw [ho] at hc; cases hc) ?_
                rcases e4 with e4 | ⟨e4, rfl⟩
                · unfold Oper.wp; rw [e4]; exact K
                · unfold Oper.wp; rw [e4]; exact K
              · cases h5
            · cases h
          · cases h
        · cases h
      · cases h
  | skip => exact one_sound hX hpl hmix h hn hd hG hf hs
  | label l' => exact one_sound hX hpl hmix h hn hd hG hf hs
  | ret => exact one_sound hX hpl hmix h hn hd hG hf hs
  | exit id => exact one_sound hX hpl hmix h hn hd hG hf hs
  | rangeFunc _ _ _ _ => exact one_sound hX hpl hmix h hn hd hG hf hs
  | scope _ => exact one_sound hX hpl hmix h hn hd hG hf hs
  | goto _ => exact one_sound hX hpl hmix h hn hd hG hf hs
  | refuse _ => exact one_sound hX hpl hmix h hn hd hG hf hs
end

/-! ### A call whose outcomes agree -/
def sameAs : List AV → List AV → Bool
  | [], [] => true
  | a :: l, b :: l' => bif sameA a b then sameAs l l' else false
  | _, _ => false
theorem sameAs_eq : ∀ {x y : List AV}, sameAs x y = true → x = y
  | [], [], _ => rfl
  | [], _ :: _, h => by cases h
  | _ :: _, [], h => by cases h
  | a :: l, b :: l', h => by
    simp only [sameAs] at h
    cases hb : sameA a b with
    | false => rw [hb] at h; cases h
    | true => rw [hb] at h; rw [sameA_eq hb, sameAs_eq h]
/-- The results of two outcomes. -/
def sameR (a b : AV) : Bool :=
  match a with
  | .tup l => match b with
    | .tup l' => sameAs l l'
    | _ => false
  | a => sameA a b
theorem sameR_eq {a b : AV} (h : sameR a b = true) : a = b := by
  unfold sameR at h
  split at h
  · split at h
    · rw [sameAs_eq h]
    · cases h
  · exact sameA_eq h
def sameEs : List (Value × AV × Nat) → List (Value × AV × Nat) → Bool
  | [], [] => true
  | a :: l, b :: l' => bif sameF a.1 b.1 && sameA a.2.1 b.2.1 && Nat.beq a.2.2 b.2.2 then sameEs l l' else false
  | _, _ => false
theorem sameEs_eq : ∀ {x y : List (Value × AV × Nat)}, sameEs x y = true → x = y
  | [], [], _ => rfl
  | [], _ :: _, h => by cases h
  | _ :: _, [], h => by cases h
  | (a1, a2, a3) :: l, (b1, b2, b3) :: l', h => by
    simp only [sameEs] at h
    cases hb : (sameF a1 b1 && sameA a2 b2 && Nat.beq a3 b3) with
    | false => rw [hb] at h; cases h
    | true =>
      rw [hb] at h
      simp only [Bool.and_eq_true] at hb
      rw [sameF_eq hb.1.1, sameA_eq hb.1.2, Nat.eq_of_beq_eq_true hb.2, sameEs_eq h]
def sameBlk (a b : Blk) : Bool :=
  match a with
  | .cells x => match b with
    | .cells y => sameAs x y
    | _ => false
  | .map es c => match b with
    | .map es' c' => Nat.beq c c' && sameEs es es'
    | _ => false
  | .buf cs z => match b with
    | .buf cs' z' => Nat.beq z z' && sameAs cs cs'
    | _ => false
  | _ => false
theorem sameBlk_eq {a b : Blk} (h : sameBlk a b = true) : a = b := by
  unfold sameBlk at h
  split at h
  · split at h
    · rw [sameAs_eq h]
    · cases h
  · split at h
    · simp only [Bool.and_eq_true] at h
      rw [Nat.eq_of_beq_eq_true h.1, sameEs_eq h.2]
    · cases h
  · split at h
    · simp only [Bool.and_eq_true] at h
      rw [Nat.eq_of_beq_eq_true h.1, sameAs_eq h.2]
    · cases h
  · cases h

/-- What all the memories hold alike. -/
noncomputable def keepB (m0 : AM) (ms : List AM) (k : Nat) (r : AM) : AM :=
  match m0.get k with
  | some b => bif ms.all (fun m' => match m'.get k with
    | some b' => sameBlk b b'
    | none => false) then r.set k b else r
  | none => r
noncomputable def rebuild (m0 : AM) (ms : List AM) (n : Nat) : AM := Nat.rec ⟨.nil, m0.next⟩ (fun k r => keepB m0 ms k r) n

theorem rebuild_next (m0 : AM) (ms : List AM) : ∀ n, (rebuild m0 ms n).next = m0.next
  | 0 => rfl
  | n + 1 => by
    show (keepB m0 ms n (rebuild m0 ms n)).next = _
    have := rebuild_next m0 ms n
    unfold keepB
    split
    · rename_i b hb
      generalize (ms.all fun m' => _) = t
      cases t with
      | true => exact this
      | false => exact this
    · exact this

theorem rebuild_get (m0 : AM) (ms : List AM) : ∀ n k b, (rebuild m0 ms n).get k = some b → m0.get k = some b ∧ ∀ m' ∈ ms, m'.get k = some b
  | 0, k, b, h => by cases h
  | n + 1, k, b, h => by
    have h' : (keepB m0 ms n (rebuild m0 ms n)).get k = some b := h
    unfold keepB at h'
    split at h'
    · rename_i b0 hb
      cases ht : (ms.all fun m' => match m'.get n with
        | some b' => sameBlk b0 b'
        | none => false) with
      | false => rw [ht] at h'; exact rebuild_get m0 ms n k b h'
      | true =>
        rw [ht] at h'
        simp only [cond_true] at h'
        by_cases e : k = n
        · subst e
          have h2 : some b0 = some b := by rw [← h']; exact (show ((rebuild m0 ms k).bl.set k (some b0)).get k = some b0 from Tr.get_set_self _ _ _).symm
          cases h2
          refine ⟨hb, fun m' hm => ?_⟩
          have := List.all_eq_true.1 ht m' hm
          split at this
          · rename_i b' hb'
            rw [hb', sameBlk_eq this]
          · cases this
        · refine rebuild_get m0 ms n k b ?_
          rw [← h']
          exact (show ((rebuild m0 ms n).bl.set n (some b0)).get k = (rebuild m0 ms n).bl.get k from Tr.get_set_ne _ _ e).symm
    · exact rebuild_get m0 ms n k b h'

section
variable {P : Program} {G : Nat → Option (List Value)} {ν : Nu} {N : Nat} {S S' : AE} {a : Act} {m m' : AM} {w w0 : World} {L : List Asn} {plans : Ord} {X : Specs}

theorem St.shrink (hs : St w0 (Mem ν m :: L) w) (hsub : ∀ id b, m'.get id = some b → m.get id = some b) (hn : m'.next = m.next) : St w0 (Mem ν m' :: L) w := by
  refine St.conv hs (fun hc => ?_) ?_
  · exact ⟨fun id hid => hc.fresh id (by rw [← hn]; exact hid), fun id blk hg => hc.at_ id blk (hsub id blk hg), fun id id' blk blk' p p' hg hg' => hc.inj id id' blk blk' p p' (hsub id blk hg) (hsub id' blk' hg')⟩
  · rintro b ⟨id, blk, p, hg, hp, rfl⟩
    exact ⟨id, blk, p, hsub id blk hg, hp, rfl⟩
end

section
variable (P : Program) (G : Nat → Option (List Value)) (plans : Ord) (X : Specs)
noncomputable def agreeL (r : Option (List (AV × AM))) : R2 :=
  match r with
  | some (r0 :: rs) => bif rs.all (fun r => sameR r.1 r0.1 && Nat.beq r.2.next r0.2.next) then some (r0.1, rebuild r0.2 (rs.map (·.2)) r0.2.next) else none
  | _ => none
noncomputable def endsL (fn : Func) (r : Outs) : Option (List (AV × AM)) :=
  match r with
  | some l => catAll (fun o => match endCall P G fn (some o) with
    | some q => some [q]
    | none => none) l
  | none => none
noncomputable def bodyL (n : Nat) (g : FuncId) (fn : Func) (asx : List AV) (m : AM) : R2 :=
  match fn.body with
  | some b => bif Nat.ble asx.length fn.ntmps && noRF b then agreeL (endsL P G fn (execL P G plans X n g fn.ntmps b (argE 0 asx .nil) m)) else none
  | none => none
/-- A call whose outcomes agree. -/
noncomputable def specL (n : Nat) (g : FuncId) (asx : List AV) (m : AM) : R2 :=
  match P.funcs[g]? with
  | some fn => bodyL P G plans X n g fn asx m
  | none => none
end

section
variable {P : Program} {G : Nat → Option (List Value)} {ν : Nu} {N : Nat} {S S' : AE} {a : Act} {m m' : AM} {w w0 : World} {L : List Asn} {plans : Ord} {X : Specs}

theorem agreeL_spec {l : List (AV × AM)} {r : AV} (h : agreeL (some l) = some (r, m')) : ∀ q ∈ l, q.1 = r ∧ m'.next = q.2.next ∧ ∀ id b, m'.get id = some b → q.2.get id = some b := by
  unfold agreeL at h
  split at h
  · rename_i r0 rs e
    simp only [Option.some.injEq] at e
    subst e
    cases ht : (rs.all fun r => sameR r.1 r0.1 && Nat.beq r.2.next r0.2.next) with
    | false => rw [ht] at h; cases h
    | true =>
      rw [ht] at h
      simp only [cond_true, Option.some.injEq, Prod.mk.injEq] at h
      obtain ⟨rfl, rfl⟩ := h
      intro q hq
      rcases List.mem_cons.1 hq with rfl | hq
      · exact ⟨rfl, rebuild_next _ _ _, fun id b hb => (rebuild_get _ _ _ id b hb).1⟩
      · have := List.all_eq_true.1 ht q hq
        simp only [Bool.and_eq_true] at this
        exact ⟨sameR_eq this.1, (rebuild_next _ _ _).trans (Nat.eq_of_beq_eq_true this.2).symm, fun id b hb => (rebuild_get _ _ _ id b hb).2 _ (List.mem_map.2 ⟨q, hq, rfl⟩)⟩
  · cases h

theorem specL_ok (hX : SpecsOK P G X) (hpl : ∀ g fn b, P.funcs[g]? = some fn → fn.body = some b → OKd plans g b) (hmix : P.follows .mixedOrders = true) (n : Nat) {g : FuncId} {asx : List AV} {r : AV} {vs : List Value}
    (h : specL P G plans X n g asx m = some (r, m')) (hG : GOK G w0 L) (hvs : vals ν asx = some vs) (hs : St w0 (Mem ν m :: L) w) : Calls P g vs.toArray w (Ret fun v w' => ∃ ν', ν.le ν' ∧ r.val ν' = some v ∧ St w0 (Mem ν' m' :: L) w') := by
  unfold specL at h
  split at h
  · rename_i fn hfn
    unfold bodyL at h
    split at h
    · rename_i b hb
      cases hle : (Nat.ble asx.length fn.ntmps && noRF b) with
      | false => rw [hle] at h; cases h
      | true =>
        rw [hle] at h
        have hnr := (Bool.and_eq_true_iff.1 hle).2
        have hle := ble_true (Bool.and_eq_true_iff.1 hle).1
        simp only [cond_true] at h
        cases he : execL P G plans X n g fn.ntmps b (argE 0 asx .nil) m with
        | none => rw [he] at h; cases h
        | some l =>
          rw [he] at h
          cases hc : endsL P G fn (some l) with
          | none => rw [hc] at h; cases h
          | some qs =>
            rw [hc] at h
            have hag := agreeL_spec h
            have lv := vals_length hvs
            refine (callsIn_wideR (r := none) (n := 0)).1 (callsIn_of_wp_marks hfn hb trivial ?_)
            have hf0 : FitsA [] ν fn.ntmps (argE 0 asx .nil) { tmps := vs.toArray ++ Array.replicate (fn.ntmps - vs.toArray.size) undef, defers := [] } := by
              refine ⟨rfl, by simp; omega, fun k x hx => ?_⟩
              rw [argE_get] at hx
              simp only [Nat.zero_le, true_and, Nat.zero_add, Nat.sub_zero] at hx
              by_cases hk : k < asx.length
              · rw [if_pos hk] at hx
                obtain ⟨v, h1, h2⟩ := vals_get hvs hx
                refine ⟨v, h1, ?_⟩
                simp only [Array.getD_eq_getD_getElem?]
                rw [Array.getElem?_append_left (by simp; omega)]
                simp [h2]
              · rw [if_neg hk] at hx
                cases hx
            have hwp := execL_sound hX hpl hmix n g fn.ntmps b (argE 0 asx .nil) m l he hnr (hpl g fn b hfn hb) ν w0 L w _ hG hf0 hs
            refine wpIn_mono hwp fun e' a' w' hq => ?_
            obtain ⟨⟨e, S2, m2⟩, ho, he', ν', k1, k2, k3⟩ := hq
            obtain ⟨bs, h1, h2⟩ := catAll_spec (show catAll _ l = some qs from hc) _ ho
            simp only at he' k2 k3
            split at h1
            · rename_i q hq
              simp only [Option.some.injEq] at h1
              subst h1
              obtain ⟨j1, j2, j3⟩ := hag q (h2 q (List.mem_cons_self ..))
              unfold endCall at hq
              simp only at hq
              have hq2 : (match resA P G m2 S2 fn.results.toList with
                | some l => some (resOf l, m2)
                | none => none) = some q := by
                cases e with
                | exit id => cases hq
                | _ => exact hq
              split at hq2
              · rename_i rl hrl
                simp only [Option.some.injEq] at hq2
                subst hq2
                obtain ⟨v, i1, i2⟩ := results_run (P := P) (fn := fn) k2 k3 hG hrl
                simp only at j1 j2 j3
                subst j1
                have k4 := St.shrink k3 j3 j2
                subst he'
                cases e with
                | normal =>
                  show LeavesInM _ _ _ _ _ _ a'.defers .returning w'
                  rw [k2.defers]
                  exact ⟨v, i2, ν', k1, i1, k4⟩
                | ret =>
                  show LeavesInM _ _ _ _ _ _ a'.defers .returning w'
                  rw [k2.defers]
                  exact ⟨v, i2, ν', k1, i1, k4⟩
                | exit id => cases hq
              · cases hq2
            · cases h1
    · cases h
  · cases h
end
#print axioms specL_ok
end Go.Ev
