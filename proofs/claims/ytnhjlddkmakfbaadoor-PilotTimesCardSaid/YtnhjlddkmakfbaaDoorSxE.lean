/-
  Sx, part E: small words for the printed walks. Proved once, for any program. Conditions: none beside each theorem's own.
-/
import Derived.Test.YtnhjlddkmakfbaaDoorSxD
namespace Go.Sx
open Go.RowKit
set_option linter.unusedVariables false
set_option linter.unusedSimpArgs false
section
variable {w : World}
theorem ok0 : okAll w [] := trivial
theorem okc {p : Addr} {v : Value} {l : List Need} (h : w.cell? p = some v) (t : okAll w l) : okAll w (.cell p v :: l) := ⟨h, t⟩
theorem oka {p : Addr} {vs : Array Value} {l : List Need} (h : ∀ i, i < vs.size → w.cell? (p.add i) = vs[i]?) (t : okAll w l) : okAll w (.cells p vs :: l) := ⟨h, t⟩
theorem okm {r : Nat} {es : Array MapEntry} {c : Nat} {l : List Need} (h : w.heap[r]? = some (.map es c)) (t : okAll w l) : okAll w (.map r es c :: l) := ⟨h, t⟩
theorem okp {p : Prop} {l : List Need} (h : p) (t : okAll w l) : okAll w (.prop p :: l) := ⟨h, t⟩
theorem ak0 : askedOK w [] := trivial
theorem ak {i : Nat} {n : List Need} {A : Asked} (h : okAll w n) (t : askedOK w A) : askedOK w ((i, n) :: A) := ⟨h, t⟩
theorem opn {M : List Nat} {A : Asked} {i : Nat} (h : opens M A i = []) : okAll w (opens M A i) := by rw [h]; trivial
theorem opl {M : List Nat} {A : Asked} {i : Nat} {n : List Need} (h : opens M A i = n) (hn : okAll w n) : okAll w (opens M A i) := h ▸ hn
end

theorem notT {x : Bool} (h : (!x) = true) : x = false := by cases x <;> simp_all
theorem notF {x : Bool} (h : (!x) = false) : x = true := by cases x <;> simp_all
theorem ieqT {x y : Int} (h : (x == y) = true) : x = y := by simpa using h
theorem ieqF {x y : Int} (h : (x == y) = false) : ¬ x = y := by simpa using h
theorem ineT {x y : Int} (h : (x != y) = true) : ¬ x = y := by simpa using h
theorem ineF {x y : Int} (h : (x != y) = false) : x = y := by simpa using h

theorem i64w {n : Int} (h1 : -9223372036854775808 ≤ n) (h2 : n < 9223372036854775808) : IntKind.i64.wrap n = n := by
  rw [IntKind.wrap_i64]; omega
theorem i64ok {n : Int} (h1 : -9223372036854775808 ≤ n) (h2 : n < 9223372036854775808) : Value.int .i64 (IntKind.i64.wrap n) = Value.int .i64 n := by rw [i64w h1 h2]
theorem i64eq {n m : Int} (h : n = m) (h1 : -9223372036854775808 ≤ m) (h2 : m < 9223372036854775808) : Value.int .i64 (IntKind.i64.wrap n) = Value.int .i64 m := by rw [h, i64w h1 h2]
theorem u64w {n : Int} (h1 : 0 ≤ n) (h2 : n < 18446744073709551616) : IntKind.u64.wrap n = n := by
  rw [IntKind.wrap_u64]; omega
theorem u64eq {n m : Int} (h : n = m) (h1 : 0 ≤ m) (h2 : m < 18446744073709551616) : Value.int .u64 (IntKind.u64.wrap n) = Value.int .u64 m := by rw [h, u64w h1 h2]
theorem u64ok {n : Int} (h1 : 0 ≤ n) (h2 : n < 18446744073709551616) : Value.int .u64 (IntKind.u64.wrap n) = Value.int .u64 n := by rw [u64w h1 h2]
theorem u32w {n : Int} (h1 : 0 ≤ n) (h2 : n < 4294967296) : IntKind.u32.wrap n = n := by
  rw [IntKind.wrap_u32]; omega
theorem u32eq {n m : Int} (h : n = m) (h1 : 0 ≤ m) (h2 : m < 4294967296) : Value.int .u32 (IntKind.u32.wrap n) = Value.int .u32 m := by rw [h, u32w h1 h2]
theorem u32ok {n : Int} (h1 : 0 ≤ n) (h2 : n < 4294967296) : Value.int .u32 (IntKind.u32.wrap n) = Value.int .u32 n := by rw [u32w h1 h2]
theorem u16w {n : Int} (h1 : 0 ≤ n) (h2 : n < 65536) : IntKind.u16.wrap n = n := by
  rw [IntKind.wrap_u16]; omega
theorem u16eq {n m : Int} (h : n = m) (h1 : 0 ≤ m) (h2 : m < 65536) : Value.int .u16 (IntKind.u16.wrap n) = Value.int .u16 m := by rw [h, u16w h1 h2]
theorem u16ok {n : Int} (h1 : 0 ≤ n) (h2 : n < 65536) : Value.int .u16 (IntKind.u16.wrap n) = Value.int .u16 n := by rw [u16w h1 h2]
theorem u8w {n : Int} (h1 : 0 ≤ n) (h2 : n < 256) : IntKind.u8.wrap n = n := by
  rw [IntKind.wrap_u8]; omega
theorem u8eq {n m : Int} (h : n = m) (h1 : 0 ≤ m) (h2 : m < 256) : Value.int .u8 (IntKind.u8.wrap n) = Value.int .u8 m := by rw [h, u8w h1 h2]
theorem u8ok {n : Int} (h1 : 0 ≤ n) (h2 : n < 256) : Value.int .u8 (IntKind.u8.wrap n) = Value.int .u8 n := by rw [u8w h1 h2]
theorem minok {k : IntKind} {x y : Int} : Value.int k (if y < x then y else x) = Value.int k (min x y) := by
  congr 1
  by_cases h : y < x
  · rw [if_pos h]; omega
  · rw [if_neg h]; omega

theorem ptrAdd (b off n : Nat) : Value.pointer (some ((Addr.mk b off none).add n)) = .pointer (some ⟨b, off + n, none⟩) := by rw [add_mk]

/-! ### A slice that came in -/
def RowsAt (W : World) (ad : Option Addr) (n size : Nat) (cell : Nat → Array Value) : Prop :=
  0 < n → ∃ b off, ad = some ⟨b, off, none⟩ ∧ ∀ k, k < n → ∀ j, j < size → W.cell? ⟨b, off + k * size + j, none⟩ = (cell k)[j]?

theorem St.below {w W : World} {L : List Asn} (h : St W L w) (i : Nat) (hi : L[i]? = some (Base W)) : Below W.heap.size W w := by
  refine ⟨h.os, h.tape, h.output, ?_, h.at_ i hi⟩
  cases hz : W.heap.size with
  | zero => omega
  | succ n =>
    have := h.lt _ (List.mem_of_getElem? hi) n (show n < W.heap.size by omega)
    omega

theorem St.start (W : World) : St W [Base W] W :=
  ⟨rfl, rfl, rfl, fun A hA => by
    have : A = Base W := by simpa using hA
    subst this
    exact fun _ _ => rfl, fun A hA b hb => by
    have : A = Base W := by simpa using hA
    subst this
    exact hb, by simp⟩

/-! ### Ways that meet again -/
def JoinI {T : Type} (N : Nat) (E : T → Env) (F : T → World → Prop) : Act → World → Prop := fun a w => ∃ x, Fits N (E x) a ∧ F x w

section
variable {P : Program} {R0 : Exit → Act → World → Prop} {N : Nat} {K : List KItem} {S : Env} {w w0 : World} {l : List Oper} {M : List Nat} {A : Asked} {rest : PT} {L : List Asn}

theorem GoC.join {T : Type} {c : Code} (E : T → Env) (F : T → World → Prop) (h1 : GoC P R0 N (.lp (JoinI N E F) :: K) c S w) (h2 : ∀ x w', F x w' → GoQ P R0 N K .normal (E x) w') : GoC P R0 N K c S w := fun a hf =>
  wp_mono (h1 a hf) fun e a' w' q => by
    cases e with
    | normal => obtain ⟨x, hx, hF⟩ := q; exact h2 x w' hF a' hx
    | exit id => exact q
    | goto l => exact q
    | ret => exact q
    | panic c => exact q
    | outgrown => exact q

theorem GoQ.meet {T : Type} {E : T → Env} {F : T → World → Prop} (x : T) (ks : List Nat) (hE : S.pick ks = E x) (hF : F x w) : GoQ P R0 N (.lp (JoinI N E F) :: K) .normal S w :=
  fun _ hf => ⟨x, hE ▸ hf.pick ks, hF⟩

theorem GoQ.meet1 {T : Type} {E : T → Env} {F : T → World → Prop} (x : T) (hE : S = E x) (hF : F x w) : GoQ P R0 N (.lp (JoinI N E F) :: K) .normal S w :=
  fun _ hf => ⟨x, hE ▸ hf, hF⟩

theorem GoQ.pick {e : Exit} (ks : List Nat) {S' : Env} (he : S.pick ks = S') (h : GoQ P R0 N K e S' w) : GoQ P R0 N K e S w := fun a hf => h a (he ▸ hf.pick ks)
theorem GoQ.slots {e : Exit} {S' : Env} (he : S = S') (h : GoQ P R0 N K e S' w) : GoQ P R0 N K e S w := he ▸ h

/-- A Bool slot's value is known now. -/
theorem GoR.setB (d : Nat) {b : Bool} (t : Bool) (hd : d < N) (hg : S.get d = some (.bool b)) (hb : b = t) (h : GoR P l M R0 K N A rest (S.set d (.bool t)) w) : GoR P l M R0 K N A rest S w := fun hN a hf => by
  have h1 := hf.get hg
  have h2 : a.put (some d) (.bool t) = a := by
    have hsz : d < a.tmps.size := by rw [hf.size]; exact hd
    have h3 : a.tmps[d]'hsz = Value.bool t := by
      have h5 : (if h : d < a.tmps.size then a.tmps[d]'h else undef) = Value.bool b := h1
      rw [dif_pos hsz] at h5
      rw [← hb]; exact h5
    have h6 : a.tmps.setIfInBounds d (.bool t) = a.tmps := by
      apply Array.ext_getElem?
      intro k
      rw [Array.getElem?_setIfInBounds]
      split
      · rename_i e; subst e; rw [← h3, Array.getElem?_eq_getElem hsz]
      · rfl
    show ({ a with tmps := a.tmps.setIfInBounds d (.bool t) } : Act) = a
    rw [h6]
  have h4 := h hN (a.put (some d) (.bool t)) (hf.set hd _)
  rw [h2] at h4
  exact h4

theorem GoR.phaseK (hs : List (Nat × Hint)) (ks : List Nat) {rest' : PT} (A' : Asked) (S' : Env) (h1 : (Go.Sx.phase P l.toArray hs S).map (fun r => (r.1, Env.pick r.2 ks)) = some (A', S')) (hr : rds (hs.map fun x => x.1) rest = rest') (h2 : askedOK w A') (h3 : GoR P l M R0 K N (A'.reverse ++ A) rest S' w) :
    GoR P l M R0 K N A rest' S w := by
  cases hp : Go.Sx.phase P l.toArray hs S with
  | none => rw [hp] at h1; cases h1
  | some r =>
    obtain ⟨A1, S1⟩ := r
    rw [hp] at h1
    simp only [Option.map_some, Option.some.injEq, Prod.mk.injEq] at h1
    obtain ⟨rfl, rfl⟩ := h1
    exact GoR.phase hs A1 S1 hp hr h2 (GoR.pick ks rfl h3)
end
end Go.Sx
