/-
  Sx, part C: what stands in memory, as a list of parts that share no block; the rules of a body's code. Proved once, for any program. Conditions: none beside each theorem's own.
-/
import Derived.Test.YtnhjlddkmakfbaaDoorSxB2
namespace Go.Sx
open Go.RowKit
set_option linter.unusedVariables false
set_option linter.unusedSimpArgs false

/-- A part of memory: the blocks that it owns, and what it says of them. -/
structure Asn where
  own : Nat → Prop
  holds : World → Prop
  loc : ∀ w w' : World, (∀ b, own b → w'.heap[b]? = w.heap[b]?) → holds w → holds w'

structure St (w0 : World) (L : List Asn) (w : World) : Prop where
  os : w.os = w0.os
  tape : w.tape = w0.tape
  output : w.output = w0.output
  holds : ∀ A ∈ L, A.holds w
  lt : ∀ A ∈ L, ∀ b, A.own b → b < w.heap.size
  apart : L.Pairwise (fun A B => ∀ b, A.own b → ¬ B.own b)

namespace St
variable {w0 w w' : World} {L L' : List Asn} {A A' B : Asn}

theorem tail (h : St w0 (A :: L) w) : St w0 L w :=
  ⟨h.os, h.tape, h.output, fun B hB => h.holds B (List.mem_cons_of_mem _ hB), fun B hB => h.lt B (List.mem_cons_of_mem _ hB), (List.pairwise_cons.1 h.apart).2⟩

theorem sub (h : St w0 L w) (hs : List.Sublist L' L) : St w0 L' w :=
  ⟨h.os, h.tape, h.output, fun B hB => h.holds B (hs.subset hB), fun B hB => h.lt B (hs.subset hB), h.apart.sublist hs⟩

theorem drop (n : Nat) (h : St w0 L w) : St w0 (L.drop n) w := h.sub (List.drop_sublist n L)

theorem perm (h : St w0 L w) (hp : L.Perm L') : St w0 L' w :=
  ⟨h.os, h.tape, h.output, fun B hB => h.holds B (hp.mem_iff.2 hB), fun B hB => h.lt B (hp.mem_iff.2 hB),
    (hp.pairwise_iff (fun {A B} hab b hb ha => hab b ha hb)).1 h.apart⟩

theorem perm_pull : ∀ {L : List Asn} {i : Nat} {A : Asn}, L[i]? = some A → L.Perm (A :: L.eraseIdx i)
  | _ :: _, 0, _, h => by simp at h; subst h; exact List.Perm.refl _
  | B :: L, i + 1, A, h => by
    simp only [List.getElem?_cons_succ] at h
    exact ((perm_pull h).cons B).trans (List.Perm.swap A B _)

theorem pull (h : St w0 L w) (i : Nat) (hi : L[i]? = some A) : St w0 (A :: L.eraseIdx i) w := h.perm (perm_pull hi)

theorem at_ (h : St w0 L w) (i : Nat) (hi : L[i]? = some A) : A.holds w := h.holds A (List.mem_of_getElem? hi)

theorem drew (h : St w0 L w) : St w0 L { w with drawn := w.drawn + 1 } :=
  ⟨h.os, h.tape, h.output, fun B hB => B.loc w _ (fun _ _ => rfl) (h.holds B hB), h.lt, h.apart⟩

/-- Another world with the same memory. -/
theorem same (h : St w0 L w) (h1 : w'.os = w.os) (h2 : w'.tape = w.tape) (h3 : w'.output = w.output) (h4 : w'.heap = w.heap) : St w0 L w' :=
  ⟨h1.trans h.os, h2.trans h.tape, h3.trans h.output, fun B hB => B.loc w w' (fun b _ => by rw [h4]) (h.holds B hB), fun B hB b hb => by rw [h4]; exact h.lt B hB b hb, h.apart⟩

/-- One part is changed; what is not its own stays. -/
theorem step (h : St w0 (A :: L) w) (h1 : w'.os = w.os) (h2 : w'.tape = w.tape) (h3 : w'.output = w.output) (hsz : w.heap.size ≤ w'.heap.size)
    (hfr : ∀ b, b < w.heap.size → ¬ A.own b → w'.heap[b]? = w.heap[b]?) (hA : A'.holds w') (hown : ∀ b, A'.own b → (A.own b ∨ w.heap.size ≤ b) ∧ b < w'.heap.size) : St w0 (A' :: L) w' := by
  have hp := List.pairwise_cons.1 h.apart
  refine ⟨h1.trans h.os, h2.trans h.tape, h3.trans h.output, fun B hB => ?_, fun B hB b hb => ?_, List.pairwise_cons.2 ⟨fun B hB b hb hb' => ?_, hp.2⟩⟩
  · rcases List.mem_cons.1 hB with rfl | hB
    · exact hA
    · refine B.loc w w' (fun b hb => hfr b (h.lt B (List.mem_cons_of_mem _ hB) b hb) fun ha => hp.1 B hB b ha hb) (h.holds B (List.mem_cons_of_mem _ hB))
  · rcases List.mem_cons.1 hB with rfl | hB
    · exact (hown b hb).2
    · exact Nat.lt_of_lt_of_le (h.lt B (List.mem_cons_of_mem _ hB) b hb) hsz
  · have hlt := h.lt B (List.mem_cons_of_mem _ hB) b hb'
    rcases (hown b hb).1 with ha | hn
    · exact hp.1 B hB b ha hb'
    · omega

def nothing : Asn := ⟨fun _ => False, fun _ => True, fun _ _ _ _ => trivial⟩

theorem addNothing (h : St w0 L w) : St w0 (nothing :: L) w :=
  ⟨h.os, h.tape, h.output, fun B hB => by rcases List.mem_cons.1 hB with rfl | hB; · trivial
                                          · exact h.holds B hB,
    fun B hB b hb => by rcases List.mem_cons.1 hB with rfl | hB; · exact hb.elim
                        · exact h.lt B hB b hb,
    List.pairwise_cons.2 ⟨fun _ _ _ hb => hb.elim, h.apart⟩⟩

/-- A part is new. -/
theorem new (h : St w0 L w) (h1 : w'.os = w.os) (h2 : w'.tape = w.tape) (h3 : w'.output = w.output) (hsz : w.heap.size ≤ w'.heap.size)
    (hfr : ∀ b, b < w.heap.size → w'.heap[b]? = w.heap[b]?) (hA : A'.holds w') (hown : ∀ b, A'.own b → w.heap.size ≤ b ∧ b < w'.heap.size) : St w0 (A' :: L) w' :=
  step (addNothing h) h1 h2 h3 hsz (fun b hb _ => hfr b hb) hA (fun b hb => ⟨.inr (hown b hb).1, (hown b hb).2⟩)

/-- A part says less, or the same in other words, of no more blocks. -/
theorem conv (h : St w0 (A :: L) w) (hh : A.holds w → A'.holds w) (ho : ∀ b, A'.own b → A.own b) : St w0 (A' :: L) w :=
  step h rfl rfl rfl (Nat.le_refl _) (fun _ _ _ => rfl) (hh (h.holds A (List.mem_cons_self ..))) (fun b hb => ⟨.inl (ho b hb), h.lt A (List.mem_cons_self ..) b (ho b hb)⟩)
end St

/-- Two parts as one. -/
def Asn.and (A B : Asn) : Asn :=
  ⟨fun b => A.own b ∨ B.own b, fun w => A.holds w ∧ B.holds w ∧ ∀ b, A.own b → ¬ B.own b, fun w w' h ⟨h1, h2, h3⟩ => ⟨A.loc w w' (fun b hb => h b (.inl hb)) h1, B.loc w w' (fun b hb => h b (.inr hb)) h2, h3⟩⟩

theorem St.join {w0 w : World} {L : List Asn} {A B : Asn} (h : St w0 (A :: B :: L) w) : St w0 (A.and B :: L) w := by
  have hp := List.pairwise_cons.1 h.apart
  have hq := List.pairwise_cons.1 hp.2
  refine ⟨h.os, h.tape, h.output, fun C hC => ?_, fun C hC b hb => ?_, List.pairwise_cons.2 ⟨fun C hC b hb hc => ?_, hq.2⟩⟩
  · rcases List.mem_cons.1 hC with rfl | hC
    · exact ⟨h.holds A (by simp), h.holds B (by simp), hp.1 B (by simp)⟩
    · exact h.holds C (by simp [hC])
  · rcases List.mem_cons.1 hC with rfl | hC
    · rcases hb with hb | hb
      · exact h.lt A (by simp) b hb
      · exact h.lt B (by simp) b hb
    · exact h.lt C (by simp [hC]) b hb
  · rcases hb with hb | hb
    · exact hp.1 C (by simp [hC]) b hb hc
    · exact hq.1 C hC b hb hc

theorem St.split {w0 w : World} {L : List Asn} {A B : Asn} (h : St w0 (A.and B :: L) w) : St w0 (A :: B :: L) w := by
  have hp := List.pairwise_cons.1 h.apart
  have hAB := h.holds (A.and B) (by simp)
  refine ⟨h.os, h.tape, h.output, fun C hC => ?_, fun C hC b hb => ?_, List.pairwise_cons.2 ⟨fun C hC b hb hc => ?_, List.pairwise_cons.2 ⟨fun C hC b hb hc => ?_, hp.2⟩⟩⟩
  · rcases List.mem_cons.1 hC with rfl | hC
    · exact hAB.1
    · rcases List.mem_cons.1 hC with rfl | hC
      · exact hAB.2.1
      · exact h.holds C (by simp [hC])
  · rcases List.mem_cons.1 hC with rfl | hC
    · exact h.lt (C.and B) (by simp) b (.inl hb)
    · rcases List.mem_cons.1 hC with rfl | hC
      · exact h.lt (A.and C) (by simp) b (.inr hb)
      · exact h.lt C (by simp [hC]) b hb
  · rcases List.mem_cons.1 hC with rfl | hC
    · exact hAB.2.2 b hb hc
    · exact hp.1 C hC b (.inl hb) hc
  · exact hp.1 C hC b (.inr hb) hc

/-! ### Blocks -/
def Cel (b : Nat) (cs : Array Value) (T : TypeId) : Asn :=
  ⟨fun k => k = b, fun w => ∃ fr : Nat × Nat, w.heap[b]? = some (.cells cs T fr) ∧ ∀ i, i < cs.size → ¬ (fr.1 ≤ i ∧ i < fr.2), fun w w' h ⟨fr, h1, h2⟩ => ⟨fr, (h b rfl).trans h1, h2⟩⟩

def Blk (b : Nat) (o : Obj) : Asn := ⟨fun k => k = b, fun w => w.heap[b]? = some o, fun w w' h h1 => (h b rfl).trans h1⟩

/-- All that was there when the law's call began. -/
def Base (W : World) : Asn := ⟨fun k => k < W.heap.size, fun w => ∀ k, k < W.heap.size → w.heap[k]? = W.heap[k]?, fun w w' h h1 k hk => (h k hk).trans (h1 k hk)⟩

theorem add_mk (b off n : Nat) : (Addr.mk b off none).add n = ⟨b, off + n, none⟩ := by
  unfold Addr.add
  split
  · rename_i h; subst h; rfl
  · rfl

theorem Cel.cell {b : Nat} {cs : Array Value} {T : TypeId} {w : World} (h : (Cel b cs T).holds w) (off : Nat) : w.cell? ⟨b, off, none⟩ = cs[off]? := by
  obtain ⟨fr, h1, _⟩ := h
  simp [World.cell?, h1]

theorem St.cell {w0 w : World} {L : List Asn} (h : St w0 L w) (i : Nat) {b : Nat} {cs : Array Value} {T : TypeId} {off : Nat} {v : Value} (hi : L[i]? = some (Cel b cs T)) (hv : cs[off]? = some v) :
    w.cell? ⟨b, off, none⟩ = some v := (Cel.cell (h.at_ i hi) off).trans hv

theorem St.cells {w0 w : World} {L : List Asn} (h : St w0 L w) (i : Nat) {b : Nat} {cs : Array Value} {T : TypeId} (off : Nat) {vs : Array Value} (hi : L[i]? = some (Cel b cs T)) (hv : cs.extract off (off + vs.size) = vs) :
    ∀ j, j < vs.size → w.cell? ((Addr.mk b off none).add j) = vs[j]? := by
  intro j hj
  rw [add_mk, Cel.cell (h.at_ i hi)]
  have h1 : (cs.extract off (off + vs.size))[j]? = vs[j]? := by rw [hv]
  rw [← h1, Array.getElem?_extract]
  have h2 := congrArg Array.size hv
  simp only [Array.size_extract] at h2
  rw [if_pos (by omega)]

theorem St.base {w0 w W : World} {L : List Asn} (h : St w0 L w) (i : Nat) (hi : L[i]? = some (Base W)) {p : Addr} {v : Value} (hv : W.cell? p = some v) : w.cell? p = some v := by
  have h1 := h.at_ i hi
  have hlt : p.block < W.heap.size := World.block_lt_of_cell? W p hv
  rw [← hv]
  exact World.cell?_of_block (w := W) (h1 p.block hlt)

/-! ### What is behind a piece of code -/
inductive KItem where
  | code (c : Code)
  | blk (id : Nat)
  | lp (I : Act → World → Prop)

def KQ (P : Program) (R0 : Exit → Act → World → Prop) : List KItem → Exit → Act → World → Prop
  | [] => R0
  | .code c :: k => Exit.then (c.wp P (KQ P R0 k)) (KQ P R0 k)
  | .blk id :: k => Exit.inBlock id (KQ P R0 k)
  | .lp I :: k => Exit.then I (KQ P R0 k)

def NoPan (Q : Exit → Act → World → Prop) : Prop := ∀ c a w, ¬ Q (.panic c) a w

theorem KQ.noPan {P : Program} {R0 : Exit → Act → World → Prop} (h : NoPan R0) : ∀ K, NoPan (KQ P R0 K)
  | [] => h
  | .code _ :: k => fun c a w hq => KQ.noPan h k c a w hq
  | .blk _ :: k => fun c a w hq => KQ.noPan h k c a w hq
  | .lp _ :: k => fun c a w hq => KQ.noPan h k c a w hq

def GoC (P : Program) (R0 : Exit → Act → World → Prop) (N : Nat) (K : List KItem) (c : Code) (S : Env) (w : World) : Prop := ∀ a, Fits N S a → c.wp P (KQ P R0 K) a w
def GoQ (P : Program) (R0 : Exit → Act → World → Prop) (N : Nat) (K : List KItem) (e : Exit) (S : Env) (w : World) : Prop := ∀ a, Fits N S a → KQ P R0 K e a w

section rules
variable {P : Program} {R0 : Exit → Act → World → Prop} {N : Nat} {K : List KItem} {S : Env} {w : World}

theorem GoC.seq {x y : Code} (h : GoC P R0 N (.code y :: K) x S w) : GoC P R0 N K (.seq x y) S w := fun a hf => wp_seq (h a hf)
theorem GoC.block {id : Nat} {c : Code} (h : GoC P R0 N (.blk id :: K) c S w) : GoC P R0 N K (.block id c) S w := fun a hf => wp_block (h a hf)
theorem GoC.skip (h : GoQ P R0 N K .normal S w) : GoC P R0 N K .skip S w := fun a hf => wp_skip (h a hf)
theorem GoC.label {l : Nat} (h : GoQ P R0 N K .normal S w) : GoC P R0 N K (.label l) S w := fun a hf => wp_label (h a hf)
theorem GoC.exit {id : Nat} (h : GoQ P R0 N K (.exit id) S w) : GoC P R0 N K (.exit id) S w := fun a hf => wp_exit (h a hf)
theorem GoC.ret (h : GoQ P R0 N K .ret S w) : GoC P R0 N K .ret S w := fun a hf => wp_ret (h a hf)
theorem GoC.cond {c : Operand} {x y : Code} {t : Bool} (hc : S.op c = some (.bool t)) (h1 : t = true → GoC P R0 N K x S w) (h2 : t = false → GoC P R0 N K y S w) : GoC P R0 N K (.cond c x y) S w :=
  fun a hf => wp_cond_split (hf.op hc) (fun h => h1 h a hf) (fun h => h2 h a hf)
theorem GoC.condT {c : Operand} {x y : Code} (hc : S.op c = some (.bool true)) (h1 : GoC P R0 N K x S w) : GoC P R0 N K (.cond c x y) S w :=
  GoC.cond hc (fun _ => h1) (fun h => by cases h)
theorem GoC.condF {c : Operand} {x y : Code} (hc : S.op c = some (.bool false)) (h1 : GoC P R0 N K y S w) : GoC P R0 N K (.cond c x y) S w :=
  GoC.cond hc (fun h => by cases h) (fun _ => h1)
theorem GoC.pick {c : Code} (ks : List Nat) {S' : Env} (he : S.pick ks = S') (h : GoC P R0 N K c S' w) : GoC P R0 N K c S w := fun a hf => h a (he ▸ hf.pick ks)
theorem GoC.slots {c : Code} {S' : Env} (he : S = S') (h : GoC P R0 N K c S' w) : GoC P R0 N K c S w := he ▸ h

theorem GoQ.thn {y : Code} (h : GoC P R0 N K y S w) : GoQ P R0 N (.code y :: K) .normal S w := h
theorem GoQ.skipC {y : Code} {id : Nat} (h : GoQ P R0 N K (.exit id) S w) : GoQ P R0 N (.code y :: K) (.exit id) S w := h
theorem GoQ.skipCR {y : Code} (h : GoQ P R0 N K .ret S w) : GoQ P R0 N (.code y :: K) .ret S w := h
theorem GoQ.skipL {I : Act → World → Prop} {id : Nat} (h : GoQ P R0 N K (.exit id) S w) : GoQ P R0 N (.lp I :: K) (.exit id) S w := h
theorem GoQ.skipLR {I : Act → World → Prop} (h : GoQ P R0 N K .ret S w) : GoQ P R0 N (.lp I :: K) .ret S w := h
theorem GoQ.blkN {id : Nat} (h : GoQ P R0 N K .normal S w) : GoQ P R0 N (.blk id :: K) .normal S w := h
theorem GoQ.blkR {id : Nat} (h : GoQ P R0 N K .ret S w) : GoQ P R0 N (.blk id :: K) .ret S w := h
theorem GoQ.hit {id : Nat} (h : GoQ P R0 N K .normal S w) : GoQ P R0 N (.blk id :: K) (.exit id) S w := fun a hf => by
  show (if id = id then KQ P R0 K .normal a w else KQ P R0 K (.exit id) a w)
  rw [if_pos rfl]
  exact h a hf
theorem GoQ.miss {id id' : Nat} (hne : (id' == id) = false) (h : GoQ P R0 N K (.exit id') S w) : GoQ P R0 N (.blk id :: K) (.exit id') S w := fun a hf => by
  show (if id' = id then KQ P R0 K .normal a w else KQ P R0 K (.exit id') a w)
  rw [if_neg (by simpa using hne)]
  exact h a hf

/-! ### A loop -/
def LoopI {T : Type} (N : Nat) (E : T → Env) (F : T → World → Prop) (mu : T → Nat) (m : Nat) : Act → World → Prop := fun a w => ∃ x, mu x < m ∧ Fits N (E x) a ∧ F x w

theorem wp_loop_ghost {T : Type} {c : Code} {Q : Exit → Act → World → Prop} (I : T → Act → World → Prop) (mu : T → Nat) (round : ∀ x a w, I x a w → c.wp P (Exit.then (fun a' w' => ∃ x', mu x' < mu x ∧ I x' a' w') Q) a w) :
    ∀ (x : T) (a : Act) (w : World), I x a w → (Code.loop c).wp P Q a w := by
  intro x a w h0 b k cs
  have key : ∀ n x a w, mu x = n → I x a w → ∃ e a' w', Q e a' w' ∧ Arrives P (lone (b.at a (.code c :: .inLoop c :: k)) cs w) b k cs e a' w' := by
    intro n
    induction n using Nat.strongRecOn with
    | _ n ih =>
      intro x a w hn hI
      obtain ⟨e, a1, w1, hq, harr⟩ := round x a w hI b (.inLoop c :: k) cs
      cases e with
      | normal =>
        obtain ⟨x', hlt, hI1⟩ := hq
        obtain ⟨e2, a2, w2, hq2, harr2⟩ := ih (mu x') (hn ▸ hlt) x' a1 w1 rfl hI1
        exact ⟨e2, a2, w2, hq2, .of_steps (Steps.trans harr (.one step_inLoop)) harr2⟩
      | exit id => exact ⟨_, a1, w1, hq, .pass (x := .inLoop c) rfl (fun _ _ => .inl (by simp)) harr⟩
      | goto l => exact ⟨_, a1, w1, hq, .pass (x := .inLoop c) rfl (fun _ _ => .inl (by simp)) harr⟩
      | ret => exact ⟨_, a1, w1, hq, .pass (x := .inLoop c) rfl (fun _ _ => .inl (by simp)) harr⟩
      | panic ch => exact ⟨_, a1, w1, hq, .pass (x := .inLoop c) rfl (fun _ _ => .inl (by simp)) harr⟩
      | outgrown => exact ⟨_, a1, w1, hq, .pass (x := .inLoop c) rfl (fun _ _ => .inl (by simp)) harr⟩
  obtain ⟨e, a', w', hq, harr⟩ := key _ x a w rfl h0
  exact ⟨e, a', w', hq, .of_steps (.one step_loop) harr⟩

theorem GoC.loop {T : Type} {c : Code} (E : T → Env) (F : T → World → Prop) (mu : T → Nat) (x0 : T) (ks : List Nat) (hE : S.pick ks = E x0) (h0 : F x0 w)
    (round : ∀ x w, F x w → GoC P R0 N (.lp (LoopI N E F mu (mu x)) :: K) c (E x) w) : GoC P R0 N K (.loop c) S w := fun a hf =>
  wp_loop_ghost (fun x a w => Fits N (E x) a ∧ F x w) mu (fun x a w h => round x w h.2 a h.1) x0 a w ⟨hE ▸ hf.pick ks, h0⟩

theorem GoQ.back {T : Type} {E : T → Env} {F : T → World → Prop} {mu : T → Nat} {m : Nat} (x : T) (ks : List Nat) (hE : S.pick ks = E x) (hmu : mu x < m) (hF : F x w) : GoQ P R0 N (.lp (LoopI N E F mu m) :: K) .normal S w :=
  fun _ hf => ⟨x, hmu, hE ▸ hf.pick ks, hF⟩

/-! ### The end of a body -/
def Ret (φ : Value → World → Prop) : Ending → World → Prop
  | .returned v, w => φ v w
  | _, _ => False

theorem noPan_body {fn : Func} {φ : Value → World → Prop} : NoPan (bodyPost P fn (Ret φ)) := fun _ _ _ h => h.2

theorem GoQ.done {fn : Func} {φ : Value → World → Prop} {e : Exit} (he : e = .ret ∨ e = .normal) {v : Value} (hr : ∀ a, Fits N S a → (results fn a.tmps).run P w = .ok v w) (h : φ v w) : GoQ P (bodyPost P fn (Ret φ)) N [] e S w := by
  rcases he with rfl | rfl
  · exact fun a hf => ⟨hf.defers, v, hr a hf, h⟩
  · exact fun a hf => ⟨hf.defers, v, hr a hf, h⟩

theorem results0 {fn : Func} (hr : fn.results = #[]) (a : Act) (_ : Fits N S a) : (results fn a.tmps).run P w = .ok (.tuple #[]) w := results_none hr _ _ _
theorem results1 {fn : Func} {t : Tmp} {v : Value} (hr : fn.results = #[.tmp t]) (hv : S.get t = some v) (a : Act) (hf : Fits N S a) : (results fn a.tmps).run P w = .ok v w := by
  rw [results_tmp hr, hf.get hv]
theorem results2 {fn : Func} {t u : Tmp} {v v' : Value} (hr : fn.results = #[.tmp t, .tmp u]) (hv : S.get t = some v) (hu : S.get u = some v') (a : Act) (hf : Fits N S a) : (results fn a.tmps).run P w = .ok (.tuple #[v, v']) w := by
  rw [results_tmp2 hr, hf.get hv, hf.get hu]

def argEnv (k : Nat) : List Value → Env
  | [] => []
  | v :: l => (k, v) :: argEnv (k + 1) l

theorem argEnv_spec : ∀ (l : List Value) (k : Nat) (p : Nat × Value), p ∈ argEnv k l → k ≤ p.1 ∧ l[p.1 - k]? = some p.2
  | v :: l, k, p, h => by
    rcases List.mem_cons.1 h with rfl | h
    · simp
    · obtain ⟨h1, h2⟩ := argEnv_spec l (k + 1) p h
      refine ⟨by omega, ?_⟩
      rw [show p.1 - k = (p.1 - (k + 1)) + 1 from by omega, List.getElem?_cons_succ]
      exact h2

theorem enter {f : FuncId} {fn : Func} {c : Code} {args : List Value} {φ : Value → World → Prop} (hf : P.funcs[f]? = some fn) (hb : fn.body = some c) (hn : fn.ntmps = N) (hl : args.length ≤ N)
    (h : GoC P (bodyPost P fn (Ret φ)) N [] c (argEnv 0 args) w) : Calls P f args.toArray w (Ret φ) := by
  refine calls_of_wp hf hb (h _ ⟨rfl, by simp [hn]; omega, fun p hp => ?_⟩)
  obtain ⟨_, h2⟩ := argEnv_spec args 0 p hp
  simp only [Nat.sub_zero] at h2
  have h3 : p.1 < args.length := (List.getElem?_eq_some_iff.1 h2).1
  simp only [Array.getD_eq_getD_getElem?]
  rw [Array.getElem?_append_left (by simpa using h3)]
  simp [h2]
end rules

theorem Calls.ret {P : Program} {f : FuncId} {args : Array Value} {w : World} {φ ψ : Value → World → Prop} (h : Calls P f args w (Ret φ)) (hm : ∀ v w', φ v w' → ψ v w') : Calls P f args w (Ret ψ) :=
  Calls.mono h fun e w' he => by
    cases e with
    | returned v => exact hm v w' he
    | panicked c => exact he.elim
    | outgrown => exact he.elim
end Go.Sx
