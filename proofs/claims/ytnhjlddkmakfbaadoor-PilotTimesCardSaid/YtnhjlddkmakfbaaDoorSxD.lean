/-
  Sx, part D: the rules of a region's operations that change memory or call. Proved once, for any program. Conditions: none beside each theorem's own.
-/
import Derived.Test.YtnhjlddkmakfbaaDoorSxC
namespace Go.Sx
open Go.RowKit
set_option linter.unusedVariables false
set_option linter.unusedSimpArgs false

/-- Go1 over a list of operations, its slots in range. -/
def GoR (P : Program) (l : List Oper) (M : List Nat) (R0 : Exit → Act → World → Prop) (K : List KItem) (N : Nat) (A : Asked) (rest : PT) (S : Env) (w : World) : Prop :=
  dstsOK N l.toArray = true → Go1 P l.toArray M (KQ P R0 K) N A rest S w

section
variable {P : Program} {R0 : Exit → Act → World → Prop} {N : Nat} {K : List KItem} {S : Env} {w w0 : World} {l : List Oper} {M : List Nat} {A : Asked} {rest : PT} {L : List Asn}

theorem GoC.regT {id : Nat} (M : List Nat) (p : PT) (hp : p.idxs = List.range l.length) (hN : dstsOK N l.toArray = true) (h : GoR P l M R0 K N [] p S w) : GoC P R0 N K (.region id l.toArray false) S w :=
  fun a hf => wp_region_text p (by simpa using hp) (h hN a hf)

theorem GoC.regD {id : Nat} (M : List Nat) (p : PT) (hm : P.follows .mixedOrders = true) (hok : planOK l.toArray M p = true) (hR : NoPan R0) (hN : dstsOK N l.toArray = true) (hs : St w0 L w)
    (h : ∀ w1, St w0 L w1 → w1.heap = w.heap → GoR P l M R0 K N [] p S w1) : GoC P R0 N K (.region id l.toArray true) S w :=
  fun a hf => wp_region_plan M p hm hok (KQ.noPan hR K) (h _ hs.drew rfl hN a hf)

theorem GoR.done (h : GoQ P R0 N K .normal S w) : GoR P l M R0 K N A .done S w := fun _ a hf => h a hf

/-- Two effects that may come up in any order: both ways. -/
theorem GoR.alt {x y : PT} (h1 : GoR P l M R0 K N A x S w) (h2 : GoR P l M R0 K N A y S w) : GoR P l M R0 K N A (.alt x y) S w := fun hN a hf => ⟨h1 hN a hf, h2 hN a hf⟩

theorem GoR.phase (hs : List (Nat × Hint)) {rest' : PT} (A' : Asked) (S' : Env) (h1 : phase P l.toArray hs S = some (A', S')) (hr : rds (hs.map fun x => x.1) rest = rest') (h2 : askedOK w A') (h3 : GoR P l M R0 K N (A'.reverse ++ A) rest S' w) :
    GoR P l M R0 K N A rest' S w := fun hN => by
  rw [← hr]
  exact Go1.phase hN hs S A A' S' h1 h2 (h3 hN)

theorem GoR.pick (ks : List Nat) {S' : Env} (he : S.pick ks = S') (h : GoR P l M R0 K N A rest S' w) : GoR P l M R0 K N A rest S w := fun hN a hf => h hN a (he ▸ hf.pick ks)
theorem GoR.slots {S' : Env} (he : S = S') (h : GoR P l M R0 K N A rest S' w) : GoR P l M R0 K N A rest S w := he ▸ h

/-- What was read, may be read once more behind operation i, and is no forebear of it. -/
def opens (M : List Nat) (A : Asked) (i : Nat) : List Need := (A.filter fun x => !anc M x.1 i).flatMap (·.2)

theorem opens_ok {i : Nat} (h : okAll w (opens M A i)) : ∀ x ∈ A.reads, anc M x.1 i = false → x.2 w := by
  intro x hx ha
  obtain ⟨y, hy, rfl⟩ := List.mem_map.1 hx
  exact okAll_of_mem fun n hn => okAll_mem h n (List.mem_flatMap.2 ⟨y, List.mem_filter.2 ⟨hy, by simp only at ha; simp [ha]⟩, hn⟩)

/-- A read whose value is known by a law of its own. -/
theorem GoR.read {i : Nat} {o : Oper} (ho : l[i]? = some o) (hw : wantE l.toArray S o = some true) (n : List Need) (v : Value) (hv : ∀ a w, Fits N S a → okAll w n → (execOp a.eval o).run P w = .ok (.value v) w) (hn : okAll w n)
    (h : GoR P l M R0 K N ((i, n) :: A) rest (S.setO o.dst v) w) : GoR P l M R0 K N A (.rd i rest) S w := fun hN a hf =>
  ⟨o, v, fun w => okAll w n, by simpa using ho, .inl ⟨wantE_sound hf hw (dstsOK_lt hN), fun w' hw' => hv a w' hf hw'⟩, hn, h hN _ (hf.setO (dstsOK_spec hN i o (by simpa using ho)) v)⟩

/-- An operation that is not wanted. -/
theorem GoR.skip {i : Nat} {o : Oper} (ho : l[i]? = some o) (hw : wantE l.toArray S o = some false) (hO : okAll w (opens M A i)) (h : GoR P l M R0 K N A rest (S.setO o.dst undef) w) : GoR P l M R0 K N A (.ef i rest) S w := fun hN a hf => by
  have ho' : l.toArray[i]? = some o := by simpa using ho
  show wpOp P l.toArray _ i _ a w
  unfold wpOp
  simp only [ho', wantE_sound hf hw (dstsOK_lt hN), Bool.false_eq_true, if_false]
  exact ⟨opens_ok hO, h hN _ (hf.setO (dstsOK_spec hN i o ho') undef)⟩

/-- An operation that is run and hands back a value, or none. -/
theorem GoR.run {i : Nat} {o : Oper} (ho : l[i]? = some o) (hw : wantE l.toArray S o = some true) (v : Value) (w' : World)
    (hv : ∀ a, Fits N S a → (execOp a.eval o).run P w = .ok (.value v) w' ∨ ((execOp a.eval o).run P w = .ok .skip w' ∧ v = undef)) (hO : okAll w' (opens M A i))
    (h : GoR P l M R0 K N A rest (S.setO o.dst v) w') : GoR P l M R0 K N A (.ef i rest) S w := fun hN a hf => by
  have ho' : l.toArray[i]? = some o := by simpa using ho
  show wpOp P l.toArray _ i _ a w
  unfold wpOp
  simp only [ho', wantE_sound hf hw (dstsOK_lt hN), if_true]
  refine .inl ?_
  unfold Oper.wp
  have hk := h hN _ (hf.setO (dstsOK_spec hN i o ho') v)
  rcases hv a hf with h1 | ⟨h1, h2⟩
  · rw [h1]; exact ⟨opens_ok hO, hk⟩
  · subst h2
    rw [h1]; exact ⟨opens_ok hO, hk⟩

/-! ### Calls -/
def callArgs (S : Env) (c : Call) : Option (FuncId × Array Value) :=
  match c.callee with
  | .value x =>
    match S.op x, S.ops c.args.toList with
    | some (.func (.func f) fst cap), some vs => some (f, (fst.toList ++ vs ++ cap.toList).toArray)
    | _, _ => none
  | _ => none

theorem run_call {a : Act} (hf : Fits N S a) {o : Oper} {c : Call} {f : FuncId} {args : Array Value} (hop : o.op = .call c) (hc : callArgs S c = some (f, args))
    (hcall : ∀ args w, (callFunc f args).run P w = .ok (.enter f args) w) : (execOp a.eval o).run P w = .ok (.enter f args) w := by
  unfold callArgs at hc
  split at hc
  · rename_i x hx
    split at hc
    · rename_i f' fst cap vs h1 h2
      simp only [Option.some.injEq, Prod.mk.injEq] at hc
      obtain ⟨rfl, rfl⟩ := hc
      have h1' := hf.op h1
      have h2' := hf.ops h2
      have h3 : c.args.map a.eval = vs.toArray := by
        rw [← h2']
        apply Array.ext'
        simp
      generalize a.eval = ρ at h1' h3 ⊢
      simp [execOp, hop, resolve, hx, h1', h3, Deferred.ofValue, invoke, go_sem]
      have h5 : fst ++ (vs.toArray ++ cap) = (fst.toList ++ (vs ++ cap.toList)).toArray := by
        apply Array.ext'
        simp
      rw [h5]
      exact hcall _ _
    · cases hc
  · cases hc

theorem GoR.call {i : Nat} {o : Oper} {c : Call} (ho : l[i]? = some o) (hop : o.op = .call c) (hw : wantE l.toArray S o = some true) {f : FuncId} {args : Array Value} (hc : callArgs S c = some (f, args))
    (hcall : ∀ args w, (callFunc f args).run P w = .ok (.enter f args) w) {φ : Value → World → Prop} (spec : Calls P f args w (Ret φ))
    (h : ∀ v w', φ v w' → okAll w' (opens M A i) ∧ GoR P l M R0 K N A rest (S.setO o.dst v) w') : GoR P l M R0 K N A (.ef i rest) S w := fun hN a hf => by
  have ho' : l.toArray[i]? = some o := by simpa using ho
  show wpOp P l.toArray _ i _ a w
  unfold wpOp
  simp only [ho', wantE_sound hf hw (dstsOK_lt hN), if_true]
  refine .inl ?_
  unfold Oper.wp
  rw [run_call hf hop hc hcall]
  refine Calls.mono spec fun e w' he => ?_
  cases e with
  | returned v =>
    obtain ⟨h1, h2⟩ := h v w' he
    exact ⟨opens_ok h1, h2 hN _ (hf.setO (dstsOK_spec hN i o ho') v)⟩
  | panicked c => exact he.elim
  | outgrown => exact he.elim

/-! ### New blocks, stores -/
theorem St.newCells (hs : St w0 L w) (cs : Array Value) (T : TypeId) : St w0 (Cel w.heap.size cs T :: L) { w with heap := w.heap.push (.cells cs T) } := by
  refine St.new hs rfl rfl rfl (by simp) (fun b hb => ?_) ⟨(0, 0), by simp, fun i _ h => by simp at h⟩ (fun b hb => ?_)
  · simp only [Array.getElem?_push]; rw [if_neg (by omega)]
  · have : b = w.heap.size := hb
    subst this
    simp

theorem St.newBlk (hs : St w0 L w) (o : Obj) : St w0 (Blk w.heap.size o :: L) { w with heap := w.heap.push o } := by
  refine St.new hs rfl rfl rfl (by simp) (fun b hb => ?_) (show (w.heap.push o)[w.heap.size]? = some o by simp) (fun b hb => ?_)
  · simp only [Array.getElem?_push]; rw [if_neg (by omega)]
  · have : b = w.heap.size := hb
    subst this
    simp

theorem GoR.box {i : Nat} {o : Oper} {T : TypeId} {x : Operand} (ho : l[i]? = some o) (hop : o.op = .box T x) (hw : wantE l.toArray S o = some true) {v : Value} (hx : S.op x = some v) (hs : St w0 L w) {cs : Array Value} (hcs : v.cells = cs)
    (h : ∀ b w', St w0 (Cel b cs T :: L) w' → okAll w' (opens M A i) ∧ GoR P l M R0 K N A rest (S.setO o.dst (.pointer (some ⟨b, 0, none⟩))) w') : GoR P l M R0 K N A (.ef i rest) S w := by
  subst hcs
  obtain ⟨h1, h2⟩ := h _ _ (hs.newCells v.cells T)
  refine GoR.run ho hw _ _ (fun a hf => .inl ?_) h1 h2
  have hx' := hf.op hx
  generalize a.eval = ρ at hx' ⊢
  simp [execOp, hop, Instr.box, newVar, newRow, newObj, hx', Sem.run, bind, Sem.bind, pure]

theorem GoR.alloc {i : Nat} {o : Oper} {T : TypeId} (ho : l[i]? = some o) (hop : o.op = .alloc T) (hw : wantE l.toArray S o = some true) {z : Value} (hz : (P.info? T).bind (·.zero) = some z) (hs : St w0 L w) {cs : Array Value} (hcs : z.cells = cs)
    (h : ∀ b w', St w0 (Cel b cs T :: L) w' → okAll w' (opens M A i) ∧ GoR P l M R0 K N A rest (S.setO o.dst (.pointer (some ⟨b, 0, none⟩))) w') : GoR P l M R0 K N A (.ef i rest) S w := by
  subst hcs
  obtain ⟨h1, h2⟩ := h _ _ (hs.newCells z.cells T)
  refine GoR.run ho hw _ _ (fun a hf => .inl ?_) h1 h2
  cases hi : P.info? T with
  | none => rw [hi] at hz; cases hz
  | some ti =>
    rw [hi] at hz
    simp only [Option.bind_some] at hz
    simp [execOp, hop, Instr.alloc, zeroValue, typeInfo, program, hi, hz, newVar, newRow, newObj, Sem.run, bind, Sem.bind, pure]

def splice (cs : Array Value) (off : Nat) : List Value → Array Value
  | [] => cs
  | v :: vs => splice (cs.setIfInBounds off v) (off + 1) vs

theorem splice_size : ∀ (vs : List Value) (cs : Array Value) (off : Nat), (splice cs off vs).size = cs.size
  | [], _, _ => rfl
  | v :: vs, cs, off => by simp [splice, splice_size vs]

def oneB : Value → Bool
  | .agg _ => false
  | .tuple _ => false
  | _ => true

def putBlock (w : World) (b : Nat) (o : Obj) : World := { w with heap := w.heap.setIfInBounds b o }

theorem run_storeCells {b : Nat} {T : TypeId} : ∀ (vs : List Value) (w : World) (cs : Array Value) (fr : Nat × Nat) (off i : Nat), w.heap[b]? = some (.cells cs T fr) → (∀ j, j < cs.size → ¬ (fr.1 ≤ j ∧ j < fr.2)) →
    off + i + vs.length ≤ cs.size → (vs.all oneB) = true → (storeCells ⟨b, off, none⟩ vs i).run P w = .ok () (putBlock w b (.cells (splice cs (off + i) vs) T fr))
  | [], w, cs, fr, off, i, hb, _, _, _ => by
    have hlt : b < w.heap.size := (Array.getElem?_eq_some_iff.1 hb).1
    have : w.heap.setIfInBounds b (.cells cs T fr) = w.heap := by
      apply Array.ext_getElem?
      intro k
      rw [Array.getElem?_setIfInBounds]
      split
      · rename_i h; subst h; exact hb.symm
      · rfl
    simp [storeCells, splice, putBlock, this, pure, Sem.run]
  | v :: vs, w, cs, fr, off, i, hb, hfr, hl, h1 => by
    simp only [List.length_cons] at hl
    simp only [List.all_cons, Bool.and_eq_true] at h1
    have hlt : b < w.heap.size := (Array.getElem?_eq_some_iff.1 hb).1
    have hc : w.cell? ⟨b, off + i, none⟩ = some (cs[off + i]'(by omega)) := by
      simp [World.cell?, hb]
    have hz : w.frozen? ⟨b, off + i, none⟩ = false := by
      have := hfr (off + i) (by omega)
      simp only [World.frozen?, hb]
      simpa using this
    have hset : w.setCell ⟨b, off + i, none⟩ v = putBlock w b (.cells (cs.setIfInBounds (off + i) v) T fr) := by
      unfold World.setCell putBlock
      congr 1
      apply Array.ext_getElem?
      intro k
      rw [Array.getElem?_setIfInBounds, Array.getElem?_modify]
      split
      · rename_i h; subst h; show Option.map _ w.heap[b]? = _; rw [hb]; simp
      · rfl
    have hb' : (putBlock w b (.cells (cs.setIfInBounds (off + i) v) T fr)).heap[b]? = some (.cells (cs.setIfInBounds (off + i) v) T fr) := by
      simp [putBlock, hlt]
    have ih := run_storeCells vs (putBlock w b (.cells (cs.setIfInBounds (off + i) v) T fr)) (cs.setIfInBounds (off + i) v) fr off (i + 1) hb' (by simpa using hfr) (by simp; omega) h1.2
    have hpp : putBlock (putBlock w b (.cells (cs.setIfInBounds (off + i) v) T fr)) b (.cells (splice (cs.setIfInBounds (off + i) v) (off + (i + 1)) vs) T fr) = putBlock w b (.cells (splice cs (off + i) (v :: vs)) T fr) := by
      simp [putBlock, splice, Nat.add_assoc]
    rw [hpp] at ih
    have hrun : ∀ (k : Sem Unit), (Sem.store .plain ⟨b, off + i, none⟩ v k).run P w = k.run P (w.setCell ⟨b, off + i, none⟩ v) := by
      intro k
      cases v <;> first
        | (exfalso; simp [oneB] at h1; done)
        | simp [Sem.run, hc, hz]
    simp only [storeCells, store, add_mk, bind, Sem.bind]
    rw [hrun, hset]
    exact ih

theorem St.put {b : Nat} {cs : Array Value} {T : TypeId} (hs : St w0 (Cel b cs T :: L) w) {fr : Nat × Nat} (hb : w.heap[b]? = some (.cells cs T fr)) (hfr : ∀ j, j < cs.size → ¬ (fr.1 ≤ j ∧ j < fr.2)) {cs' : Array Value} (hsz : cs'.size = cs.size) : St w0 (Cel b cs' T :: L) (putBlock w b (.cells cs' T fr)) := by
  have hlt : b < w.heap.size := (Array.getElem?_eq_some_iff.1 hb).1
  refine St.step hs rfl rfl rfl (by simp [putBlock]) (fun k hk hn => ?_) ⟨fr, by simp [putBlock, hlt], by rw [hsz]; exact hfr⟩ (fun k hk => ⟨.inl hk, ?_⟩)
  · simp only [putBlock, Array.getElem?_setIfInBounds]
    rw [if_neg (fun e => hn e.symm)]
  · have : k = b := hk
    subst this
    simpa [putBlock] using hlt

theorem perm_set : ∀ {L : List Asn} {j : Nat} {A : Asn} (B : Asn), L[j]? = some A → (B :: L.eraseIdx j).Perm (L.set j B)
  | _ :: _, 0, _, B, _ => List.Perm.refl _
  | C :: L, j + 1, A, B, h => by
    simp only [List.getElem?_cons_succ] at h
    exact (List.Perm.swap C B _).trans ((perm_set B h).cons C)

/-- A store into the block of part j. -/
theorem GoR.store {i : Nat} {o : Oper} {t : TypeId} {x y : Operand} (ho : l[i]? = some o) (hop : o.op = .store t x y) (hw : wantE l.toArray S o = some true) {b off : Nat} {v : Value} {ti : TypeInfo}
    (hx : S.op x = some (.pointer (some ⟨b, off, none⟩))) (hy : S.op y = some v) (ht : P.info? t = some ti) (hs : St w0 L w) (j : Nat) {cs : Array Value} {T : TypeId} (hj : L[j]? = some (Cel b cs T))
    (hsz : v.cells.size = ti.size) (h1 : v.cells.toList.all oneB = true) (hoff : off + v.cells.size ≤ cs.size) {cs' : Array Value} {L' : List Asn} (hcs : splice cs off v.cells.toList = cs') (hL : L.set j (Cel b cs' T) = L')
    (h : ∀ w', St w0 L' w' → okAll w' (opens M A i) ∧ GoR P l M R0 K N A rest (S.setO o.dst undef) w') : GoR P l M R0 K N A (.ef i rest) S w := by
  have hp := hs.pull j hj
  obtain ⟨fr, hb, hfr⟩ := hp.holds (Cel b cs T) (by simp)
  have hput := St.put hp hb hfr (cs' := cs') (by rw [← hcs, splice_size])
  obtain ⟨k1, k2⟩ := h _ (hL ▸ hput.perm (perm_set _ hj))
  refine GoR.run ho hw _ _ (fun a hf => .inr ⟨?_, rfl⟩) k1 k2
  have hx' := hf.op hx
  have hy' := hf.op hy
  have hr := run_storeCells (P := P) v.cells.toList w cs fr off 0 hb hfr (by simpa using hoff) h1
  simp only [Nat.add_zero, hcs] at hr
  generalize a.eval = ρ at hx' hy' ⊢
  have h2 : (storeVar t ⟨b, off, none⟩ v).run P w = .ok () (putBlock w b (.cells cs' T fr)) := by
    simp only [storeVar, sizeOf, typeInfo, program, bind, Sem.bind, Sem.run, ht, pure]
    rw [if_neg (by simpa using hsz)]
    exact hr
  simp [execOp, hop, Instr.storeAt, hx', hy', Instr.sureAddr, bind, Sem.bind, pure]
  rw [Sem.run_bind', h2]
  rfl
end
end Go.Sx
