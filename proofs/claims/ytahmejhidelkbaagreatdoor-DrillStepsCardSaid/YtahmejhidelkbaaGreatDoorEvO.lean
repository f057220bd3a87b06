/-
  Ev, part O: SEVERAL WAYS OUT OF A CALL: a map's range with several entries left, in a function that a range over a function calls, or that another one calls; what of it comes out alike in each way, with the part of memory that it touches. Conditions: none beside EvM's.
-/
import Derived.Test.YtahmejhidelkbaaGreatDoorEvZ
namespace Go.Ev
open Go.Sx
set_option linter.unusedVariables false
set_option linter.unusedSimpArgs false

abbrev RecO := FuncId → List AV → AM → Option (List (AV × AM))
abbrev OutsO := Option (List (AE × AM))

noncomputable def put1 (N : Nat) (S : AE) (d : Option Tmp) (r : AV × AM) : OutsO := match putA N S d r.1 with
  | some S1 => some [(S1, r.2)]
  | none => none
noncomputable def putL (N : Nat) (S : AE) (d : Option Tmp) (r : Option (List (AV × AM))) : OutsO := match r with
  | some l => catAll (put1 N S d) l
  | none => none
noncomputable def thenO (ih : AE → AM → OutsO) (r : OutsO) : OutsO := match r with
  | some l => catAll (fun r => ih r.1 r.2) l
  | none => none
noncomputable def nrmL (r : OutsO) : Outs := match r with
  | some l => some (l.map fun r => (.normal, r.1, r.2))
  | none => none

section
variable (P : Program) (G : Nat → Option (List Value)) (plans : Ord) (X : Specs)

/-- An operation that comes out in several ways. -/
noncomputable def manyStep (cM : RecO) (N : Nat) (o : Oper) (S : AE) (m : AM) : OutsO :=
  match o.guard with
  | some _ => none
  | none => match o.op with
    | .next x str => match str with
      | true => none
      | false => match opnd S x with
        | some (.ptr i 0) => putL N S o.dst (nextAll m i)
        | _ => none
    | .call c => match c.callee with
      | .value x => match callee S x c.args.toList with
        | some (f, asx) => bif enters P f then putL N S o.dst (cM f asx m) else none
        | none => none
      | _ => none
    | _ => none
noncomputable def oneStepM (call : FuncId → List AV → AM → R2) (cM : RecO) (N : Nat) (ops : List Oper) (o : Oper) (S : AE) (m : AM) : OutsO :=
  match oneStep P G call N ops o S m with
  | some r => some [r]
  | none => manyStep P cM N o S m
noncomputable def runOpsM (call : FuncId → List AV → AM → R2) (cM : RecO) (N : Nat) (ops : List Oper) (l : List Oper) : AE → AM → OutsO :=
  List.rec (fun S m => some [(S, m)]) (fun o _ ih S m => thenO ih (oneStepM P G call cM N ops o S m)) l

noncomputable def afterL (id : Nat) (S : AE) (r : Option (List (AV × AM))) : Outs := match r with
  | some l => catAll (fun r => oneL (afterRange id S (some r))) l
  | none => none
noncomputable def rangeM (cM : RecO) (f N : Nat) (g : Operand) (ps : List Tmp) (assign body : Code) (S : AE) (m : AM) : Outs :=
  match opnd S g with
  | some v => match fnOf v [.yl m.next] with
    | some (f', args) => bif enters P f' then afterL m.next S (cM f' args (m.new (.loop f N S ps assign body 0 none))) else none
    | none => none
  | none => none

noncomputable def bodyM (ihM : RecL) (g : FuncId) (asx : List AV) (m : AM) : Option (List (AV × AM)) :=
  match P.funcs[g]? with
  | some fn => match fn.body with
    | some b => bif Nat.ble asx.length fn.ntmps then endsL P G fn (ihM g fn.ntmps b (argE 0 asx .nil) m) else none
    | none => none
  | none => none
noncomputable def callM (ih : Rec) (ihM : RecL) (g : FuncId) (asx : List AV) (m : AM) : Option (List (AV × AM)) :=
  match callK P G X ih g asx m with
  | some r => some [r]
  | none => bodyM P G ihM g asx m

noncomputable def stepM (ih : Rec) (ihM : RecL) : RecL := fun f N c S m =>
  match c with
  | .seq a b => thenL ihM f N b (ihM f N a S m)
  | .cond x a b => condL ihM f N a b S m (opnd S x)
  | .block id b => blockL id (ihM f N b S m)
  | .loop b => thenL ihM f N c (ihM f N b S m)
  | .region id ops draw => match draw with
    | false => nrmL (runOpsM P G (callK2 P G plans X ih) (callM P G X ih ihM) N ops.toList ops.toList S m)
    | true => oneL (ih f N c S m)
  | .rangeFunc g ps a b => rangeM P (callM P G X ih ihM) f N g ps.toList a b S m
  | _ => oneL (ih f N c S m)
noncomputable def execM (fuel : Nat) : RecL := Nat.rec (fun _ _ _ _ _ => none) (fun n ihM => stepM P G plans X (exec P G plans X n) ihM) fuel
end

section
variable {P : Program} {G : Nat → Option (List Value)} {ν : Nu} {N : Nat} {S S' : AE} {a : Act} {m m' : AM} {w w0 : World} {L : List Asn} {plans : Ord} {X : Specs} {δ : List Deferred}

theorem execM_succ (n : Nat) : execM P G plans X (n + 1) = stepM P G plans X (exec P G plans X n) (execM P G plans X n) := rfl

def PostM (δ : List Deferred) (ν : Nu) (w0 : World) (L : List Asn) (N : Nat) (l : List (Ex × AE × AM)) : Exit → Act → World → Prop := fun e' a' w' => ∃ o ∈ l, Post δ ν w0 L N false o.1 o.2.1 o.2.2 e' a' w'
theorem PostM.after {l l' : List (Ex × AE × AM)} (h : ∀ o ∈ l, o ∈ l') {ν' : Nu} {Ds : List Nat} (h1 : ν.le ν') {e : Exit} {a' : Act} {w' : World} (hp : PostM (marksL Ds ++ δ) ν' w0 (Ds.map DefA ++ L) N l e a' w') : PostM δ ν w0 L N l' e a' w' := by
  obtain ⟨o, ho, hq⟩ := hp
  exact ⟨o, h o ho, Post.after (b'' := false) (b' := false) (fun e => by cases e) (fun e => by cases e) h1 hq⟩

abbrev OutR (ν : Nu) (w0 : World) (L : List Asn) (q : AV × AM) : Ending → World → Prop := Ret fun v w' => ∃ ν', ν.le ν' ∧ q.1.val ν' = some v ∧ St w0 (Mem ν' q.2 :: L) w'
def CallMOK (P : Program) (G : Nat → Option (List Value)) (cM : RecO) : Prop := ∀ f asx m l ν vs w w0 L, enters P f = true → cM f asx m = some l → GOK G w0 L → vals ν asx = some vs → St w0 (Mem ν m :: L) w →
  Calls P f vs.toArray w fun e w' => ∃ q ∈ l, OutR ν w0 L q e w'

theorem putL_spec {d : Option Tmp} {r : Option (List (AV × AM))} {rs : List (AE × AM)} (h : putL N S d r = some rs) : ∃ l, r = some l ∧ ∀ q ∈ l, ∃ S1, putA N S d q.1 = some S1 ∧ (S1, q.2) ∈ rs := by
  unfold putL at h
  split at h
  · rename_i l
    refine ⟨l, rfl, fun q hq => ?_⟩
    obtain ⟨bs, h1, h2⟩ := catAll_spec h q hq
    unfold put1 at h1
    split at h1
    · rename_i S1 hp
      simp only [Option.some.injEq] at h1
      subst h1
      exact ⟨S1, hp, h2 _ (List.mem_cons_self ..)⟩
    · cases h1
  · cases h

theorem manyStep_wp {cM : RecO} (hcM : CallMOK P G cM) (hG : GOK G w0 L) (hf : FitsA δ ν N S a) (hs : St w0 (Mem ν m :: L) w) {ops : Array Oper} {o : Oper} {i : Nat} (hi : ops[i]? = some o) {rs : List (AE × AM)}
    (h : manyStep P cM N o S m = some rs) {K : Act → World → Prop} {Q : Exit → Act → World → Prop} (hK : ∀ r ∈ rs, ∀ ν' w' a', ν.le ν' → FitsA δ ν' N r.1 a' → St w0 (Mem ν' r.2 :: L) w' → K a' w') : wpOpIn (WideR none) 0 P ops Q i K a w := by
  unfold manyStep at h
  split at h
  · cases h
  · rename_i hgd
    unfold wpOpIn
    simp only [hi]
    have hw : Region.wanted o (yielded ops a.tmps) = true := by
      unfold Region.wanted
      rw [hgd]
    rw [hw]
    simp only [if_true]
    split at h
    · rename_i x str ho
      split at h
      · cases h
      · split at h
        · rename_i i' hx
          obtain ⟨l, hall, hl⟩ := putL_spec h
          obtain ⟨v0, hv0, ev0⟩ := hf.op hx
          obtain ⟨q, hq, v, ν', w', e1, e2, e3, e4⟩ := nextAll_sound (P := P) hs ho (ρ := a.eval) (by rw [ev0]; exact hv0) hall
          obtain ⟨S1, hp, hmem⟩ := hl q hq
          refine Oper.wpIn_of_wp (fun c hc => by rw [ho] at hc; cases hc) ?_
          have K' : K (a.put o.dst v) w' := hK _ hmem ν' w' _ e1 ((hf.mono e1).put e2 hp) e3
          rcases e4 with e4 | ⟨e4, rfl⟩
          · unfold Oper.wp; rw [e4]; exact K'
          · unfold Oper.wp; rw [e4]; exact K'
        · cases h
    · rename_i c ho
      split at h
      · rename_i x hcx
        split at h
        · rename_i f asx hcal
          cases hen : enters P f with
          | false => rw [hen] at h; cases h
          | true =>
            rw [hen] at h
            simp only [cond_true] at h
            obtain ⟨l, hall, hl⟩ := putL_spec h
            obtain ⟨fst, cap, vs, h1, h2, h3⟩ := callee_spec hf hcal
            have hcalls := hcM f asx m l ν _ w w0 L hen hall hG h3 hs
            have hrun : (execOp a.eval o).run P w = .ok (.enter f (fst.toList ++ vs ++ cap.toList).toArray) w := by
              generalize a.eval = ρ at h1 h2 ⊢
              have h5 : fst ++ (vs.toArray ++ cap) = (fst.toList ++ (vs ++ cap.toList)).toArray := by
                apply Array.ext'
                simp
              simp [execOp, ho, resolve, hcx, h1, h2, Deferred.ofValue, invoke, go_sem]
              rw [h5]
              exact enters_spec hen _ _
            refine Oper.wpIn_of_wp (fun c hc => by rw [ho] at hc; cases hc) ?_
            unfold Oper.wp
            rw [hrun]
            refine Calls.mono hcalls fun e w' he => ?_
            obtain ⟨q, hq, he⟩ := he
            obtain ⟨S1, hp, hmem⟩ := hl q hq
            cases e with
            | returned v =>
              obtain ⟨ν', k1, k2, k3⟩ := he
              exact hK _ hmem ν' w' _ k1 ((hf.mono k1).put k2 hp) k3
            | panicked c => exact he.elim
            | outgrown => exact he.elim
        · cases h
      · cases h
    · cases h

theorem runOpsM_cons (call : FuncId → List AV → AM → R2) (cM : RecO) (N : Nat) (ops : List Oper) (o : Oper) (l : List Oper) (S : AE) (m : AM) : runOpsM P G call cM N ops (o :: l) S m = thenO (runOpsM P G call cM N ops l) (oneStepM P G call cM N ops o S m) := rfl

theorem runOpsM_wp {call : FuncId → List AV → AM → R2} {cM : RecO} (hc : CallOK P G call) (hcr : RoundOK P G call) (hcM : CallMOK P G cM) (hG : GOK G w0 L) {ops : Array Oper} {Q : Exit → Act → World → Prop} : ∀ (l : List Oper) (k : Nat) (S : AE) (m : AM) (ν : Nu) (w : World) (a : Act) (rs : List (AE × AM)), ops.toList.drop k = l →
    runOpsM P G call cM N ops.toList l S m = some rs → FitsA δ ν N S a → St w0 (Mem ν m :: L) w → (∀ r ∈ rs, ∀ ν' w' a', ν.le ν' → FitsA δ ν' N r.1 a' → St w0 (Mem ν' r.2 :: L) w' → Q .normal a' w') → wpOpsIn (WideR none) 0 P ops Q (List.range' k l.length) a w
  | [], k, S, m, ν, w, a, rs, hd, h, hf, hs, hK => by
    have h' : some [(S, m)] = some rs := h
    simp only [Option.some.injEq] at h'
    subst h'
    exact hK _ (List.mem_cons_self ..) ν w a (Nu.le_refl ν) hf hs
  | o :: l, k, S, m, ν, w, a, rs, hd, h, hf, hs, hK => by
    rw [runOpsM_cons] at h
    unfold thenO at h
    split at h
    · rename_i r1 h1
      have hi : ops[k]? = some o := by
        have : (ops.toList.drop k)[0]? = some o := by rw [hd]; rfl
        rw [List.getElem?_drop] at this
        simpa using this
      have hd2 : ops.toList.drop (k + 1) = l := by
        rw [← List.drop_drop, hd]
        rfl
      simp only [List.length_cons, List.range'_succ]
      rw [wpOpsIn_cons]
      have next : ∀ r ∈ r1, ∀ ν' w' a', ν.le ν' → FitsA δ ν' N r.1 a' → St w0 (Mem ν' r.2 :: L) w' → wpOpsIn (WideR none) 0 P ops Q (List.range' (k + 1) l.length) a' w' := by
        intro r hr ν' w' a' h2 h3 h4
        obtain ⟨bs, h5, h6⟩ := catAll_spec h r hr
        exact runOpsM_wp hc hcr hcM hG l (k + 1) r.1 r.2 ν' w' a' bs hd2 h5 h3 h4 fun r2 hr2 ν'' w'' a'' k1 k2 k3 => hK r2 (h6 _ hr2) ν'' w'' a'' (Nu.le_trans h2 k1) k2 k3
      unfold oneStepM at h1
      split at h1
      · rename_i r ho
        simp only [Option.some.injEq] at h1
        subst h1
        obtain ⟨S2, m2⟩ := r
        exact oneStep_wp (ro := none) hc hcr hG hf hs hi ho fun ν' w' a' h2 h3 h4 => next _ (List.mem_cons_self ..) ν' w' a' h2 h3 h4
      · exact manyStep_wp hcM hG hf hs hi h1 next
    · cases h

/-- A RANGE OVER A FUNCTION that comes out in several ways. -/
theorem rangeM_ok {cM : RecO} (hcM : CallMOK P G cM) {f : FuncId} {g : Operand} {ps : Array Tmp} {ca cb : Code} {l : List (Ex × AE × AM)} (h : rangeM P cM f N g ps.toList ca cb S m = some l)
    (hG : GOK G w0 L) (hf : FitsA δ ν N S a) (hs : St w0 (Mem ν m :: L) w) : (Code.rangeFunc g ps ca cb).wpIn (WideR none) 0 P (PostM δ ν w0 L N l) a w := by
  unfold rangeM at h
  split at h
  · rename_i v hv
    split at h
    · rename_i f' asx hfn
      cases hen : enters P f' with
      | false => rw [hen] at h; cases h
      | true =>
      rw [hen] at h
      simp only [cond_true] at h
      refine wpIn_rangeFunc fun fn _ => ?_
      have hs1 : St w0 (Mem ν m :: DefA w.heap.size :: L) (w.alloc (.deferred (some []))) := (hs.newBlk _).perm (List.Perm.swap _ _ _)
      obtain ⟨hs2, hle⟩ := St.mNew hs1 (.loop f N S ps.toList ca cb 0 none) (.loop { state := .ready, pending := none, fn := fn, tmps := a.tmps, params := ps, assign := ca, body := cb, defers := w.heap.size }) 0
        ⟨_, rfl, (fun _ => rfl), (fun e => by cases e), rfl, by simp, rfl, rfl, hf.size, fun k x hx => by
          obtain ⟨u, j1, j2⟩ := hf.at_ k x hx
          exact ⟨u, AV.val_mono (Nu.le_add ((memOK hs1).fresh _ (Nat.le_refl _))) _ j1, j2⟩⟩
      have hsz : (w.alloc (.deferred (some []))).heap.size = w.heap.size + 1 := World.size_alloc _ _
      rw [hsz] at hs2 hle
      have hyl : vals (ν.add m.next (w.heap.size + 1, 0)) [.yl m.next] = some [.func (.yield (w.heap.size + 1)) #[] #[]] := by
        simp only [vals, AV.val, Nu.add_self]
      obtain ⟨fst, cap, hev, hvals⟩ := fnOf_spec hf hv hfn hle hyl
      unfold afterL at h
      split at h
      · rename_i qs hcl
        have hG1 : GOK G w0 (DefA w.heap.size :: L) := hG.frame _
        have hcalls := hcM f' asx _ qs _ _ _ w0 _ hen hcl hG1 hvals hs2
        obtain ⟨W1, hW1⟩ : ∃ W1 : World, (w.alloc (.deferred (some []))).alloc (.loop { state := .ready, pending := none, fn := fn, tmps := a.tmps, params := ps, assign := ca, body := cb, defers := w.heap.size }) = W1 := ⟨_, rfl⟩
        have hE : (Instr.enterLoop fn a.tmps ps ca cb none).run P w = .ok (w.heap.size + 1, [{ target := .collected w.heap.size, args := #[] }]) W1 := by rw [← hW1]; exact run_enterLoop_outer _ _ _ _ _
        change Calls P f' _ ((w.alloc (.deferred (some []))).alloc (.loop { state := .ready, pending := none, fn := fn, tmps := a.tmps, params := ps, assign := ca, body := cb, defers := w.heap.size })) _ at hcalls
        rw [hW1] at hcalls
        refine ⟨w.heap.size + 1, [{ target := .collected w.heap.size, args := #[] }], W1, { target := .fn (.func f') cap, args := fst ++ #[Value.func (.yield (w.heap.size + 1)) #[] #[]] }, W1, f', (fst.toList ++ [Value.func (.yield (w.heap.size + 1)) #[] #[]] ++ cap.toList).toArray, W1, hE, ?_, fun _ _ => trivial, ?_, (fun h => by simp [WideR, Fence.wide] at h), ?_⟩
        · simp only [resolve, hev]
          simp [Deferred.ofValue, go_sem, Act.eval]
        · have h5 : (fst ++ #[Value.func (.yield (w.heap.size + 1)) #[] #[]]) ++ cap = (fst.toList ++ [Value.func (.yield (w.heap.size + 1)) #[] #[]] ++ cap.toList).toArray := by
            apply Array.ext'
            simp
          simp only [invoke]
          rw [h5]
          exact enters_spec hen _ _
        · refine callsIn_wideR.2 ?_
          refine Calls.mono hcalls fun e1 w3 he1 => ?_
          obtain ⟨q, hq, he1⟩ := he1
          obtain ⟨bs, hbs, hsub⟩ := catAll_spec h q hq
          obtain ⟨r, m2⟩ := q
          cases e1 with
          | panicked c => exact he1.elim
          | outgrown => exact he1.elim
          | returned v' =>
            obtain ⟨ν', k1, -, k3⟩ := he1
            simp only at k3
            unfold oneL at hbs
            split at hbs
            · rename_i out hout
              obtain ⟨e, S', m'⟩ := out
              simp only [Option.some.injEq] at hbs
              subst hbs
              have hmem := hsub _ (List.mem_cons_self ..)
              unfold afterRange at hout
              simp only at hout
              split at hout
              · rename_i f2 N2 S2 ps2 ca2 cb2 st2 pd2 hg2
                have hp2 : ν' m.next = some (w.heap.size + 1, 0) := k1 _ _ (Nu.add_self _ _ _)
                obtain ⟨p', o', hp', ho', r2, rfl, hst0, hst2, hpd, q1, q2, q3, q4, q5⟩ := (memOK k3).at_ _ _ hg2
                rw [hp2] at hp'
                cases hp'
                have done : ∀ (w4 : World), St w0 (Mem ν' (m2.del m.next) :: DefA w.heap.size :: L) w4 → ∀ e' , toExit e = e' → S' = S → m' = m2.del m.next → PostM δ ν w0 L N l e' { a with defers := [{ target := .collected w.heap.size, args := #[] }] ++ a.defers } w4 := by
                  rintro w4 h4 e' h5 rfl rfl
                  refine ⟨_, hmem, h5, ν', [w.heap.size], (fun e => by cases e), Nu.le_trans hle k1, ⟨?_, hf.size, fun k x hx => ?_⟩, h4⟩
                  · show _ :: a.defers = _
                    rw [hf.defers]; rfl
                  · obtain ⟨u, j1, j2⟩ := hf.at_ k x hx
                    exact ⟨u, AV.val_mono (Nu.le_trans hle k1) _ j1, j2⟩
                have hs4 : ∀ o, St w0 (Mem ν' (m2.del m.next) :: DefA w.heap.size :: L) (w3.putObj (w.heap.size + 1) o) := fun o => by
                  exact St.delPut k3 hg2 hp2 o
                split at hout
                · split at hout
                  · simp only [Option.some.injEq, Prod.mk.injEq] at hout
                    obtain ⟨rfl, rfl, rfl⟩ := hout
                    refine ⟨none, _, by have := run_endLoop (P := P) ho' (by rw [hst0 rfl]; simp); rw [hpd] at this; exact this, ?_⟩
                    exact done _ (hs4 _) .normal rfl rfl rfl
                  · cases hout
                · split at hout
                  · simp only [Option.some.injEq, Prod.mk.injEq] at hout
                    obtain ⟨rfl, rfl, rfl⟩ := hout
                    refine ⟨some .ret, _, by have := run_endLoop (P := P) ho' (by rw [hst2 rfl]; simp); rw [hpd] at this; exact this, ?_⟩
                    exact wpIn_ret (done _ (hs4 _) .ret rfl rfl rfl)
                  · rename_i k
                    simp only [Option.some.injEq, Prod.mk.injEq] at hout
                    obtain ⟨rfl, rfl, rfl⟩ := hout
                    refine ⟨some (.exit k), _, by have := run_endLoop (P := P) ho' (by rw [hst2 rfl]; simp); rw [hpd] at this; exact this, ?_⟩
                    exact wpIn_exit (done _ (hs4 _) (.exit k) rfl rfl rfl)
                  · cases hout
                · cases hout
              · cases hout
            · cases hbs
      · cases h
    · cases h
  · cases h

def IHM (P : Program) (G : Nat → Option (List Value)) (plans : Ord) (X : Specs) (n : Nat) : Prop :=
  ∀ f N c S m l, execM P G plans X n f N c S m = some l → OKd plans f c → ∀ δ ν w0 L w a, GOK G w0 L → FitsA δ ν N S a → St w0 (Mem ν m :: L) w → c.wpIn (WideR none) 0 P (PostM δ ν w0 L N l) a w

theorem callM_okR {n : Nat} (hX : SpecsOK P G X) (hpl : ∀ g fn b, P.funcs[g]? = some fn → fn.body = some b → OKd plans g b) (hmix : P.follows .mixedOrders = true) {k : Nat} (ih : IHM P G plans X n) :
    CallMOK P G (callM P G X (exec P G plans X k) (execM P G plans X n)) := by
  intro f asx m l ν vs w w0 L hen h hG hvs hs
  unfold callM at h
  split at h
  · rename_i r hr
    simp only [Option.some.injEq] at h
    subst h
    obtain ⟨r, m'⟩ := r
    refine Calls.mono (callK_sound hX hpl hmix k hen hr hG hvs hs) fun e w' he => ⟨_, List.mem_cons_self .., he⟩
  · unfold bodyM at h
    split at h
    · rename_i fn hfn
      split at h
      · rename_i b hb
        cases hle : Nat.ble asx.length fn.ntmps with
        | false => rw [hle] at h; cases h
        | true =>
          rw [hle] at h
          have hle := ble_true hle
          simp only [cond_true] at h
          unfold endsL at h
          split at h
          · rename_i outs he
            have lv := vals_length hvs
            refine (callsIn_wideR (r := none) (n := 0)).1 (callsIn_of_wp_marks hfn hb trivial ?_)
            have hf0 : FitsA [] ν fn.ntmps (argE 0 asx .nil) { tmps := vs.toArray ++ Array.replicate (fn.ntmps - vs.toArray.size) undef, defers := [] } := by
              refine ⟨rfl, by simp; omega, fun k x hx => ?_⟩
              rw [argE_get] at hx
              simp only [Nat.zero_le, true_and, Nat.zero_add, Nat.sub_zero] at hx
              by_cases hk : k < asx.length
              · rw [if_pos hk] at hx
                obtain ⟨v, h1, h2⟩ := vals_get hvs hx
                refine ⟨v, h1, ?_⟩
                simp only [Array.getD_eq_getD_getElem?]
                rw [Array.getElem?_append_left (by simp; omega)]
                simp [h2]
              · rw [if_neg hk] at hx
                cases hx
            have hwp := ih f fn.ntmps b (argE 0 asx .nil) m outs he (hpl f fn b hfn hb) [] ν w0 L w _ hG hf0 hs
            refine wpIn_mono hwp fun e' a' w' hq => ?_
            obtain ⟨⟨e, S', m2⟩, ho, he', ν', Ds, -, k1, k2, k3⟩ := hq
            simp only at he' k2 k3
            obtain ⟨bs, h1, h2⟩ := catAll_spec h _ ho
            split at h1
            · rename_i q hq
              simp only [Option.some.injEq] at h1
              subst h1
              have hmem := h2 _ (List.mem_cons_self ..)
              unfold endCall at hq
              simp only at hq
              have hne : ∀ id, e ≠ .exit id := by
                intro id e'
                subst e'
                cases hq
              have hq2 : (match resA P G m2 S' fn.results.toList with
                | some l => some (resOf l, m2)
                | none => none) = some q := by
                cases e with
                | exit id => exact (hne id rfl).elim
                | _ => exact hq
              split at hq2
              · rename_i rl hl
                simp only [Option.some.injEq] at hq2
                subst hq2
                have hd : a'.defers = marksL Ds := by rw [k2.defers, List.append_nil]
                have fin : LeavesInM (WideR none) 0 P fn a'.tmps (fun e w' => ∃ q ∈ l, OutR ν w0 L q e w') a'.defers .returning w' := by
                  rw [hd]
                  refine leaves_marks Ds w' k3 fun w3 k4 => ?_
                  obtain ⟨v, j1, j2⟩ := results_run (P := P) (fn := fn) k2 k4 hG hl
                  exact ⟨v, j2, _, hmem, ν', k1, j1, k4⟩
                subst he'
                cases e with
                | normal => exact fin
                | ret => exact fin
                | exit id => exact (hne id rfl).elim
              · cases hq2
            · cases h1
          · cases h
      · cases h
    · cases h

theorem one_soundM (hX : SpecsOK P G X) (hpl : ∀ g fn b, P.funcs[g]? = some fn → fn.body = some b → OKd plans g b) (hmix : P.follows .mixedOrders = true) {n : Nat} {f : FuncId} {c : Code} {l : List (Ex × AE × AM)} (h : oneL (exec P G plans X n f N c S m) = some l)
    (hd : OKd plans f c) (hG : GOK G w0 L) (hf : FitsA δ ν N S a) (hs : St w0 (Mem ν m :: L) w) : c.wpIn (WideR none) 0 P (PostM δ ν w0 L N l) a w := by
  unfold oneL at h
  split at h
  · rename_i o ho
    simp only [Option.some.injEq] at h
    subst h
    obtain ⟨e, S', m'⟩ := o
    exact wpIn_mono (exec_soundR hX hpl hmix n f N c S m e S' m' ho hd none (.inl rfl) δ ν w0 L w a hG hf hs) fun e' a' w' hq => ⟨_, List.mem_cons_self .., Post.weaken (fun e => by cases e) hq⟩
  · cases h

/-- WHAT THE LISTS SAY, calls of several ways among them. -/
theorem execM_sound (hX : SpecsOK P G X) (hpl : ∀ g fn b, P.funcs[g]? = some fn → fn.body = some b → OKd plans g b) (hmix : P.follows .mixedOrders = true) : ∀ n, IHM P G plans X n := by
  intro n
  induction n using Nat.strongRecOn with
  | _ n IH =>
  intro f N c S m l h hd δ ν w0 L w a hG hf hs
  cases n with
  | zero => cases h
  | succ n =>
  have ih := IH n (by omega)
  have hcM := callM_okR (k := n) hX hpl hmix ih
  rw [execM_succ] at h
  cases c with
  | seq x y =>
    simp only [stepM, thenL] at h
    split at h
    · rename_i l1 h1
      have w1 := ih f N x S m l1 h1 (fun z hz => hd z (List.mem_append.2 (.inl hz))) δ ν w0 L w a hG hf hs
      refine wpIn_seq (wpIn_mono w1 fun e' a' w' hq => ?_)
      obtain ⟨⟨e1, S1, m1⟩, ho, he, ν', Ds, hDs, k1, k2, k3⟩ := hq
      obtain ⟨bs, h2, h3⟩ := catAll_spec h _ ho
      simp only at he h2 k2 k3
      subst he
      cases e1 with
      | normal => exact wpIn_mono (ih f N y S1 m1 bs h2 (fun z hz => hd z (List.mem_append.2 (.inr hz))) _ ν' w0 _ w' a' (hG.frames Ds) k2 k3) fun e' a' w' hq => PostM.after h3 k1 hq
      | exit id =>
        simp only [Option.some.injEq] at h2
        subst h2
        exact ⟨_, h3 _ (List.mem_cons_self ..), rfl, ν', Ds, hDs, k1, k2, k3⟩
      | ret =>
        simp only [Option.some.injEq] at h2
        subst h2
        exact ⟨_, h3 _ (List.mem_cons_self ..), rfl, ν', Ds, hDs, k1, k2, k3⟩
    · cases h
  | cond x y z =>
    simp only [stepM, condL] at h
    split at h
    · rename_i t hx
      obtain ⟨v, hv, ex⟩ := hf.op hx
      simp only [AV.val, Option.some.injEq] at hv
      subst hv
      refine wpIn_cond_split ex (fun ht => ?_) (fun ht => ?_)
      · subst ht
        exact ih f N y S m l h (fun u hu => hd u (List.mem_append.2 (.inl hu))) δ ν w0 L w a hG hf hs
      · subst ht
        exact ih f N z S m l h (fun u hu => hd u (List.mem_append.2 (.inr hu))) δ ν w0 L w a hG hf hs
    · cases h
  | block id x =>
    simp only [stepM, blockL] at h
    split at h
    · rename_i l1 h1
      simp only [Option.some.injEq] at h
      subst h
      have w1 := ih f N x S m l1 h1 hd δ ν w0 L w a hG hf hs
      refine wpIn_block (wpIn_mono w1 fun e' a' w' hq => ?_)
      obtain ⟨⟨e1, S1, m1⟩, ho, he, ν', Ds, hDs, k1, k2, k3⟩ := hq
      simp only at he k2 k3
      subst he
      cases e1 with
      | normal => exact ⟨_, List.mem_map.2 ⟨_, ho, rfl⟩, rfl, ν', Ds, hDs, k1, k2, k3⟩
      | ret => exact ⟨_, List.mem_map.2 ⟨_, ho, rfl⟩, rfl, ν', Ds, hDs, k1, k2, k3⟩
      | exit id' =>
        show (if id' = id then PostM δ ν w0 L N _ .normal a' w' else PostM δ ν w0 L N _ (.exit id') a' w')
        cases hb : Nat.beq id' id with
        | true =>
          rw [if_pos (Nat.eq_of_beq_eq_true hb)]
          refine ⟨_, List.mem_map.2 ⟨_, ho, rfl⟩, ?_⟩
          simp only [hb, cond_true]
          exact ⟨rfl, ν', Ds, hDs, k1, k2, k3⟩
        | false =>
          rw [if_neg (Nat.ne_of_beq_eq_false hb)]
          refine ⟨_, List.mem_map.2 ⟨_, ho, rfl⟩, ?_⟩
          simp only [hb, cond_false]
          exact ⟨rfl, ν', Ds, hDs, k1, k2, k3⟩
    · cases h
  | loop x =>
    refine wpR_loop_ghost (r := none) (T := Nat) (fun k a w => k ≤ n + 1 ∧ ∃ S1 m1 ν1 Ds l1, ν.le ν1 ∧ execM P G plans X k f N (.loop x) S1 m1 = some l1 ∧ (∀ o ∈ l1, o ∈ l) ∧ FitsA (marksL Ds ++ δ) ν1 N S1 a ∧ St w0 (Mem ν1 m1 :: (Ds.map DefA ++ L)) w) id ?_ (n + 1) a w ⟨Nat.le_refl _, S, m, ν, [], l, Nu.le_refl ν, h, fun _ h => h, hf, hs⟩
    rintro k a1 w1 ⟨hk, S1, m1, ν1, Ds, l1, k0, h1, hsub, k2, k3⟩
    cases k with
    | zero => cases h1
    | succ k =>
      rw [execM_succ] at h1
      simp only [stepM, thenL] at h1
      split at h1
      · rename_i l2 h2
        have w2 := IH k (by omega) f N x S1 m1 l2 h2 hd _ ν1 w0 _ w1 a1 (hG.frames Ds) k2 k3
        refine wpIn_mono w2 fun e' a' w' hq => ?_
        have hq2 : PostM δ ν w0 L N l2 e' a' w' := PostM.after (fun _ h => h) k0 hq
        obtain ⟨⟨e2, S2, m2⟩, ho, he, ν', Es, hEs, j1, j2, j3⟩ := hq2
        obtain ⟨bs, h3, h4⟩ := catAll_spec h1 _ ho
        simp only at he h3 j2 j3
        subst he
        cases e2 with
        | normal => exact ⟨k, Nat.lt_succ_self k, by omega, S2, m2, ν', Es, bs, j1, h3, fun o ho => hsub o (h4 o ho), j2, j3⟩
        | exit id =>
          simp only [Option.some.injEq] at h3
          subst h3
          exact ⟨_, hsub _ (h4 _ (List.mem_cons_self ..)), rfl, ν', Es, hEs, j1, j2, j3⟩
        | ret =>
          simp only [Option.some.injEq] at h3
          subst h3
          exact ⟨_, hsub _ (h4 _ (List.mem_cons_self ..)), rfl, ν', Es, hEs, j1, j2, j3⟩
      · cases h1
  | region id ops draw =>
    simp only [stepM] at h
    cases draw with
    | true => exact one_soundM hX hpl hmix h hd hG hf hs
    | false =>
      have hcall := call2_ok (callK_okR hX hpl (exec_soundR hX hpl hmix n))
      have hround := round_ok (exec_soundR hX hpl hmix n)
      refine wpIn_region ?_
      simp only [nrmL] at h
      split at h
      · rename_i rs hrs
        simp only [Option.some.injEq] at h
        subst h
        rw [List.range_eq_range']
        have := runOpsM_wp hcall hround hcM hG (ops := ops) (Q := PostM δ ν w0 L N (rs.map fun r => (Ex.normal, r.1, r.2))) ops.toList 0 S m ν w a rs rfl hrs hf hs fun r hr ν' w' a' h2 h3 h4 => ⟨_, List.mem_map.2 ⟨r, hr, rfl⟩, Post.plain rfl h2 h3 h4⟩
        simpa using this
      · cases h
  | rangeFunc g ps ca cb => exact rangeM_ok hcM h hG hf hs
  | skip => exact one_soundM hX hpl hmix h hd hG hf hs
  | label l' => exact one_soundM hX hpl hmix h hd hG hf hs
  | ret => exact one_soundM hX hpl hmix h hd hG hf hs
  | exit id => exact one_soundM hX hpl hmix h hd hG hf hs
  | scope _ => exact one_soundM hX hpl hmix h hd hG hf hs
  | goto _ => exact one_soundM hX hpl hmix h hd hG hf hs
  | refuse _ => exact one_soundM hX hpl hmix h hd hG hf hs
end
#print axioms execM_sound
/-! ### What comes out alike, by the part of memory that it touches -/
def name0 (a : AV) : Option Nat := match a with
  | .ptr i _ => some i
  | .sl i _ _ _ _ => some i
  | .se i _ _ _ => some i
  | .mp i => some i
  | .yl i => some i
  | _ => none
def name1 (a : AV) : List Nat := match a with
  | .fn _ x y => (x ++ y).filterMap name0
  | .agg l => l.filterMap name0
  | .tup l => l.filterMap name0
  | .ifc _ x => (name0 x).toList
  | a => (name0 a).toList
def namesB (b : Blk) : List Nat := match b with
  | .cells cs => cs.flatMap name1
  | .buf cs _ => cs.flatMap name1
  | _ => []
noncomputable def blkOf (m : AM) (i : Nat) : List Nat := match m.get i with
  | some b => namesB b
  | none => []
noncomputable def reachD (m : AM) (d : Nat) : List Nat → List Nat := Nat.rec (fun l => l) (fun _ ih l => l ++ ih (l.flatMap (blkOf m))) d
noncomputable def partOf (m : AM) (ids : List Nat) : List (Nat × Blk) := ids.filterMap fun i => match m.get i with
  | some b => some (i, b)
  | none => none
noncomputable def keepR (q : AV × AM) (rs : List (AV × AM)) (ids : List Nat) : List (Nat × Blk) := ids.filterMap fun i => match q.2.get i with
  | some b => bif rs.all (fun r => match r.2.get i with
    | some b' => sameBlk b b'
    | none => false) then some (i, b) else none
  | none => none
noncomputable def agreeR (m : AM) (part : List (Nat × Blk)) (r : Option (List (AV × AM))) : R2 := match r with
  | some (q :: rs) => bif rs.all (fun r => sameR r.1 q.1 && Nat.beq r.2.next q.2.next) then
      some (q.1, ⟨lay (keepR q rs (part.map (·.1) ++ List.range' m.next (q.2.next - m.next))) (wipe part m.bl), q.2.next⟩) else none
  | _ => none
section
variable (P : Program) (G : Nat → Option (List Value)) (plans : Ord) (X : Specs)
/-- The same, the program being taken apart ahead. -/
noncomputable def execMD (fuel : Nat) : RecL := Nat.rec (fun _ _ _ _ _ => none) (fun n ihM => stepM P G plans X (execD P G plans X n) ihM) fuel
theorem execMD_eq : ∀ n, execMD P G plans X n = execM P G plans X n
  | 0 => rfl
  | n + 1 => by
    show stepM P G plans X (execD P G plans X n) (execMD P G plans X n) = stepM P G plans X (exec P G plans X n) (execM P G plans X n)
    rw [execD_eq, execMD_eq n]
noncomputable def specR1 (n : Nat) (g : FuncId) (asx : List AV) (m : AM) (part : List (Nat × Blk)) : R2 :=
  agreeR m part (callM P G X (execD P G plans X n) (execMD P G plans X n) g asx ⟨lay part .nil, m.next⟩)
/-- A call whose ways agree; 'd': how far from what it is given it touches memory. -/
noncomputable def specR (n d : Nat) (g : FuncId) (asx : List AV) (m : AM) : R2 :=
  bif enters P g then specR1 P G plans X n g asx m (partOf m (reachD m d (asx.flatMap name1))) else none
end

section
variable {P : Program} {G : Nat → Option (List Value)} {ν : Nu} {m m' : AM} {w w0 : World} {L : List Asn} {plans : Ord} {X : Specs}

theorem partOf_mem {ids : List Nat} {e : Nat × Blk} (h : e ∈ partOf m ids) : m.get e.1 = some e.2 := by
  unfold partOf at h
  obtain ⟨i, -, hi⟩ := List.mem_filterMap.1 h
  split at hi
  · rename_i b hb
    cases hi
    exact hb
  · cases hi
theorem keepR_mem {q : AV × AM} {rs : List (AV × AM)} {ids : List Nat} {e : Nat × Blk} (h : e ∈ keepR q rs ids) : ∀ r ∈ q :: rs, r.2.get e.1 = some e.2 := by
  unfold keepR at h
  obtain ⟨i, -, hi⟩ := List.mem_filterMap.1 h
  split at hi
  · rename_i b hb
    generalize hall : (rs.all fun r => match r.2.get i with
      | some b' => sameBlk b b'
      | none => false) = t at hi
    cases t with
    | false => cases hi
    | true =>
      cases hi
      intro r hr
      rcases List.mem_cons.1 hr with rfl | hr
      · exact hb
      · have := List.all_eq_true.1 hall r hr
        split at this
        · rename_i b' hb'
          rw [hb', ← sameBlk_eq this]
        · cases this
  · cases hi

theorem specR_ok (hX : SpecsOK P G X) (hpl : ∀ g fn b, P.funcs[g]? = some fn → fn.body = some b → OKd plans g b) (hmix : P.follows .mixedOrders = true) (n d : Nat) {g : FuncId} {asx : List AV} {r : AV} {vs : List Value}
    (h : specR P G plans X n d g asx m = some (r, m')) (hG : GOK G w0 L) (hvs : vals ν asx = some vs) (hs : St w0 (Mem ν m :: L) w) : Calls P g vs.toArray w (Ret fun v w' => ∃ ν', ν.le ν' ∧ r.val ν' = some v ∧ St w0 (Mem ν' m' :: L) w') := by
  unfold specR at h
  cases hen : enters P g with
  | false => rw [hen] at h; cases h
  | true =>
  rw [hen] at h
  simp only [cond_true] at h
  unfold specR1 at h
  rw [execD_eq, execMD_eq] at h
  have hpart : ∀ e ∈ partOf m (reachD m d (asx.flatMap name1)), m.get e.1 = some e.2 := fun e he => partOf_mem he
  generalize partOf m (reachD m d (asx.flatMap name1)) = part at h hpart
  unfold agreeR at h
  split at h
  · rename_i q rs hc
    generalize hall : (rs.all fun r => sameR r.1 q.1 && Nat.beq r.2.next q.2.next) = t at h
    cases t with
    | false => cases h
    | true =>
      simp only [cond_true, Option.some.injEq, Prod.mk.injEq] at h
      obtain ⟨rfl, rfl⟩ := h
      have k1 : ∀ id b, (⟨lay part .nil, m.next⟩ : AM).get id = some b → (id, b) ∈ part := fun id b hg => by
        rcases lay_get hg with h | h
        · exact h
        · cases h
      have hs2 : St w0 (Mem ν ⟨lay part .nil, m.next⟩ :: Mem ν ⟨wipe part m.bl, m.next⟩ :: L) w := by
        refine St.split hs (fun id b hg => hpart _ (k1 id b hg)) rfl (fun id b hg => ?_) rfl
        obtain ⟨g1, g2⟩ := wipe_get hg
        refine ⟨g1, ?_⟩
        cases hx : (⟨lay part .nil, m.next⟩ : AM).get id with
        | none => rfl
        | some b' => exact absurd rfl (g2 _ (k1 id b' hx))
      have hcM := callM_okR (k := n) hX hpl hmix (execM_sound hX hpl hmix n)
      refine Calls.mono (hcM g asx _ _ ν vs w w0 _ hen hc (hG.frame _) hvs hs2) fun e w' he => ?_
      obtain ⟨q', hq', he⟩ := he
      cases e with
      | panicked c => exact he.elim
      | outgrown => exact he.elim
      | returned v =>
        obtain ⟨ν', j1, j2, j3⟩ := he
        have hq1 : q'.1 = q.1 ∧ q.2.next = q'.2.next := by
          rcases List.mem_cons.1 hq' with rfl | hr
          · exact ⟨rfl, rfl⟩
          · have := List.all_eq_true.1 hall _ hr
            simp only [Bool.and_eq_true] at this
            exact ⟨sameR_eq this.1, (Nat.eq_of_beq_eq_true this.2).symm⟩
        refine ⟨ν', j1, by rw [← hq1.1]; exact j2, St.join j3 j1 (fun id b hg => ?_) hq1.2⟩
        rcases lay_get hg with h | h
        · exact .inl (keepR_mem h q' hq')
        · exact .inr h
  · cases h
end
#print axioms specR_ok
end Go.Ev
