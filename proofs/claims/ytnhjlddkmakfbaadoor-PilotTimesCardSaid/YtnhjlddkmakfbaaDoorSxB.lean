/-
  Sx, part B: the slots of a frame as a list; what a run of plain operations does to it, reckoned by the kernel. Proved once, for any program. Conditions: none beside each theorem's own.
-/
import Derived.Test.YtnhjlddkmakfbaaDoorSxA
import Derived.Below
namespace Go.Sx
open Go.RowKit
set_option linter.unusedVariables false
set_option linter.unusedSimpArgs false

/-! ### Slots -/
abbrev Env := List (Nat × Value)

structure Fits (N : Nat) (S : Env) (a : Act) : Prop where
  defers : a.defers = []
  size : a.tmps.size = N
  at_ : ∀ p ∈ S, a.tmps.getD p.1 undef = p.2

namespace Env
def get (S : Env) (n : Nat) : Option Value := (S.find? (fun p => p.1 == n)).map (·.2)
def set (S : Env) (d : Nat) (v : Value) : Env := (d, v) :: S.filter (fun p => p.1 != d)
def setO (S : Env) (d : Option Tmp) (v : Value) : Env := match d with | some d => S.set d v | none => S
def pick (S : Env) (ks : List Nat) : Env := ks.filterMap fun k => (S.get k).map fun v => (k, v)
def op (S : Env) : Operand → Option Value
  | .tmp t => S.get t
  | .const v => some v
  | .global g => some (.pointer (some ⟨g, 0, none⟩))
  | .func f => some (.func (.func f) #[] #[])
def ops (S : Env) : List Operand → Option (List Value)
  | [] => some []
  | x :: l => match S.op x, S.ops l with
    | some v, some vs => some (v :: vs)
    | _, _ => none
end Env

theorem Fits.get {N : Nat} {S : Env} {a : Act} (h : Fits N S a) {n : Nat} {v : Value} (hg : S.get n = some v) : a.tmps.getD n undef = v := by
  unfold Env.get at hg
  cases hf : S.find? (fun p => p.1 == n) with
  | none => rw [hf] at hg; cases hg
  | some p =>
    rw [hf] at hg
    simp only [Option.map_some, Option.some.injEq] at hg
    have h1 := h.at_ p (List.mem_of_find?_eq_some hf)
    have h2 := List.find?_some hf
    simp only [beq_iff_eq] at h2
    rw [← h2, ← hg]
    exact h1

theorem Fits.op {N : Nat} {S : Env} {a : Act} (h : Fits N S a) {x : Operand} {v : Value} (hg : S.op x = some v) : a.eval x = v := by
  cases x with
  | tmp t => exact h.get hg
  | const c => simpa [Env.op, Act.eval] using hg
  | global g => simpa [Env.op, Act.eval] using hg
  | func f => simpa [Env.op, Act.eval] using hg

theorem Fits.ops {N : Nat} {S : Env} {a : Act} (h : Fits N S a) : ∀ {l : List Operand} {vs : List Value}, S.ops l = some vs → l.map a.eval = vs
  | [], vs, hg => by simpa [Env.ops] using hg
  | x :: l, vs, hg => by
    simp only [Env.ops] at hg
    cases h1 : S.op x with
    | none => rw [h1] at hg; cases hg
    | some v =>
      cases h2 : S.ops l with
      | none => rw [h1, h2] at hg; cases hg
      | some ws =>
        rw [h1, h2] at hg
        simp only [Option.some.injEq] at hg
        rw [← hg, List.map_cons, h.op h1, Fits.ops h h2]

theorem Fits.set {N : Nat} {S : Env} {a : Act} (h : Fits N S a) {d : Nat} (hd : d < N) (v : Value) : Fits N (S.set d v) (a.put (some d) v) := by
  refine ⟨h.defers, by simpa [Act.put] using h.size, fun p hp => ?_⟩
  rcases List.mem_cons.1 hp with rfl | hp
  · simp [Act.put, Array.getD, h.size, hd]
  · obtain ⟨h1, h2⟩ := List.mem_filter.1 hp
    simp only [bne_iff_ne, ne_eq] at h2
    rw [← h.at_ p h1]
    simp only [Act.put, Array.getD_eq_getD_getElem?]
    rw [Array.getElem?_setIfInBounds_ne (fun e => h2 e.symm)]

def dstOK (N : Nat) : Option Tmp → Bool
  | some d => decide (d < N)
  | none => true

theorem Fits.setO {N : Nat} {S : Env} {a : Act} (h : Fits N S a) {d : Option Tmp} (hd : dstOK N d = true) (v : Value) : Fits N (S.setO d v) (a.put d v) := by
  cases d with
  | none => exact h
  | some d => exact h.set (by simpa [dstOK] using hd) v

theorem Fits.pick {N : Nat} {S : Env} {a : Act} (h : Fits N S a) (ks : List Nat) : Fits N (S.pick ks) a := by
  refine ⟨h.defers, h.size, fun p hp => ?_⟩
  obtain ⟨k, _, hk⟩ := List.mem_filterMap.1 hp
  cases hg : S.get k with
  | none => rw [hg] at hk; cases hk
  | some v =>
    rw [hg] at hk
    simp only [Option.map_some, Option.some.injEq] at hk
    rw [← hk]
    exact h.get hg

/-! ### What an operation asks of the world -/
inductive Need where
  | cell (p : Addr) (v : Value)
  | cells (p : Addr) (vs : Array Value)
  | map (r : Nat) (es : Array MapEntry) (clock : Nat)
  | prop (p : Prop)
  | holds (p : World → Prop)

def Need.ok (w : World) : Need → Prop
  | .cell p v => w.cell? p = some v
  | .cells p vs => ∀ i, i < vs.size → w.cell? (p.add i) = vs[i]?
  | .map r es clock => w.heap[r]? = some (.map es clock)
  | .prop p => p
  | .holds p => p w

def okAll (w : World) : List Need → Prop
  | [] => True
  | n :: l => n.ok w ∧ okAll w l

theorem okAll_mem {w : World} : ∀ {l : List Need}, okAll w l → ∀ n ∈ l, n.ok w
  | _ :: _, h, n, hn => by
    rcases List.mem_cons.1 hn with rfl | hn
    · exact h.1
    · exact okAll_mem h.2 n hn
theorem okAll_of_mem {w : World} : ∀ {l : List Need}, (∀ n ∈ l, n.ok w) → okAll w l
  | [], _ => trivial
  | _ :: _, h => ⟨h _ (List.mem_cons_self ..), okAll_of_mem fun n hn => h n (List.mem_cons.2 (.inr hn))⟩
theorem okAll_append {w : World} {l m : List Need} (h : okAll w (l ++ m)) : okAll w l ∧ okAll w m :=
  ⟨okAll_of_mem fun n hn => okAll_mem h n (List.mem_append.2 (.inl hn)), okAll_of_mem fun n hn => okAll_mem h n (List.mem_append.2 (.inr hn))⟩

/-- The run of an operation, the loads answered by 'ans'. -/
def drive (P : Program) : Sem Next → List Value → Option (List Need × Value)
  | .pure (.value v), _ => some ([], v)
  | .load _ p k, v :: ans => match drive P (k v) ans with
    | some (n, r) => some (.cell p v :: n, r)
    | none => none
  | .program k, ans => drive P (k P) ans
  | .mark _ k, ans => drive P k ans
  | _, _ => none

theorem drive_sound {P : Program} {w : World} : ∀ (s : Sem Next) (ans : List Value) (n : List Need) (v : Value), drive P s ans = some (n, v) → okAll w n → s.run P w = .ok (.value v) w := by
  intro s
  induction s with
  | pure a =>
    intro ans n v h _
    cases a <;> simp [drive] at h
    simp [Sem.run, h]
  | load m p k ih =>
    intro ans n v h hn
    cases ans with
    | nil => simp [drive] at h
    | cons x ans =>
      simp only [drive] at h
      cases hd : drive P (k x) ans with
      | none => rw [hd] at h; cases h
      | some r =>
        obtain ⟨n', v'⟩ := r
        rw [hd] at h
        simp only [Option.some.injEq, Prod.mk.injEq] at h
        obtain ⟨rfl, rfl⟩ := h
        have h1 : w.cell? p = some x := hn.1
        simp only [Sem.run, h1]
        exact ih x ans n' v' hd hn.2
  | program k ih => intro ans n v h hn; exact ih P ans n v h hn
  | mark m k ih => intro ans n v h hn; exact ih ans n v h hn
  | _ => intro ans n v h; simp [drive] at h

/-- How the kernel is to reckon an operation. -/
inductive Hint where
  | gen (ans : List Value)                 -- by its own text; loads answered in turn
  | agg (vs : Array Value)                 -- the load of a struct or an array, whole
  | at_                                    -- the address of a slice's or an array's element
  | byte (b : UInt8)                       -- a string's byte
  | elem (v : Value)                       -- an array's element
  | sub (l h : Nat)                        -- a slice of a slice, a string
  | div (n : Int)                          -- a division
  | shift (n : Int)
  | add2                                   -- two strings
  | lenMap (es : Array MapEntry) (clock : Nat)
  | as_ (v : Value) (h : Hint)             -- its value is v, by an equation

def isSelect : Op → Bool
  | .select .. => true
  | _ => false

def known (S : Env) (o : Oper) : Bool := !isSelect o.op && (S.ops o.op.operands.toList).isSome

def evalGen (P : Program) (S : Env) (o : Oper) (ans : List Value) : Option (List Need × Value) :=
  if known S o then drive P (execOp (fun x => (S.op x).getD undef) o) ans else none

def evalAt (P : Program) (S : Env) (o : Oper) : Option (List Need × Value) :=
  match o.op with
  | .indexAddr t x i =>
    match P.underlying t, S.op x, S.op i with
    | some (.slice e), some (.slice (some a) len _), some (.int _ n) =>
      match P.info? e with
      | some ie => some ([.prop (0 ≤ n ∧ n < (len : Int))], .pointer (some (a.add (n.toNat * ie.size))))
      | none => none
    | some (.array len e), some (.pointer (some a)), some (.int _ n) =>
      match P.info? e with
      | some ie => some ([.prop (0 ≤ n ∧ n < (len : Int))], .pointer (some (a.add (n.toNat * ie.size))))
      | none => none
    | _, _, _ => none
  | _ => none

def evalAgg (P : Program) (S : Env) (o : Oper) (vs : Array Value) : Option (List Need × Value) :=
  match o.op with
  | .load t x =>
    match S.op x, P.info? t, P.underlying t with
    | some (.pointer (some p)), some i, some (.struct _) => some ([.prop (vs.size = i.size), .cells p vs], .agg vs)
    | some (.pointer (some p)), some i, some (.array _ _) => some ([.prop (vs.size = i.size), .cells p vs], .agg vs)
    | _, _, _ => none
  | _ => none

def evalByte (P : Program) (S : Env) (o : Oper) (b : UInt8) : Option (List Need × Value) :=
  match o.op with
  | .index t x i =>
    match P.underlying t, S.op x, S.op i with
    | some .string, some (.string s), some (.int _ n) => some ([.prop (0 ≤ n ∧ s[n.toNat]? = some b)], .int .u8 b.toNat)
    | _, _, _ => none
  | _ => none

def evalElem (P : Program) (S : Env) (o : Oper) (v : Value) : Option (List Need × Value) :=
  match o.op with
  | .index t x i =>
    match P.underlying t, S.op x, S.op i with
    | some (.array len e), some (.agg cs), some (.int _ n) =>
      match P.info? e, P.underlying e with
      | some ie, some (.struct _) => some ([.prop (0 ≤ n ∧ n < (len : Int)), .prop (Value.agg (cs.extract (n.toNat * ie.size) (n.toNat * ie.size + ie.size)) = v)], v)
      | some ie, some (.array _ _) => some ([.prop (0 ≤ n ∧ n < (len : Int)), .prop (Value.agg (cs.extract (n.toNat * ie.size) (n.toNat * ie.size + ie.size)) = v)], v)
      | some ie, some (.int _) => some ([.prop (0 ≤ n ∧ n < (len : Int)), .prop (cs[n.toNat * ie.size]? = some v)], v)
      | some ie, some .string => some ([.prop (0 ≤ n ∧ n < (len : Int)), .prop (cs[n.toNat * ie.size]? = some v)], v)
      | some ie, some .bool => some ([.prop (0 ≤ n ∧ n < (len : Int)), .prop (cs[n.toNat * ie.size]? = some v)], v)
      | _, _ => none
    | _, _, _ => none
  | _ => none

def boundNeed (S : Env) (x : Option Operand) (l : Nat) : Option (List Need) :=
  match x with
  | some x => match S.op x with
    | some (.int _ n) => some [.prop (n = (l : Int))]
    | _ => none
  | none => some []

def evalSub (P : Program) (S : Env) (o : Oper) (l h : Nat) : Option (List Need × Value) :=
  match o.op with
  | .slice t x lo hi none =>
    match P.underlying t, S.op x with
    | some .string, some (.string s) =>
      match boundNeed S lo l, boundNeed S hi h with
      | some n1, some n2 => some (n1 ++ (n2 ++ [.prop ((lo = none → l = 0) ∧ (hi = none → h = s.size) ∧ l ≤ h ∧ h ≤ s.size)]), .string (s.extract l h))
      | _, _ => none
    | some (.slice e), some (.slice a len cap) =>
      match boundNeed S lo l, boundNeed S hi h, P.info? e with
      | some n1, some n2, some ie => some (n1 ++ (n2 ++ [.prop ((lo = none → l = 0) ∧ (hi = none → h = len) ∧ l ≤ h ∧ h ≤ cap)]), .slice (if cap = l then a else a.map (·.add (l * ie.size))) (h - l) (cap - l))
      | _, _, _ => none
    | some (.array n e), some (.pointer (some a)) =>
      match boundNeed S lo l, boundNeed S hi h, P.info? e with
      | some n1, some n2, some ie => some (n1 ++ (n2 ++ [.prop ((lo = none → l = 0) ∧ (hi = none → h = n) ∧ l ≤ h ∧ h ≤ n)]), .slice (some (if n = l then a else a.add (l * ie.size))) (h - l) (n - l))
      | _, _, _ => none
    | _, _ => none
  | _ => none

def evalDiv (S : Env) (o : Oper) (n : Int) : Option (List Need × Value) :=
  match o.op with
  | .binOp .quo _ x y _ => match S.op x, S.op y with
    | some (.int k a), some (.int k' b) => some ([.prop (k = k' ∧ b ≠ 0 ∧ k.wrap (a.tdiv b) = n)], .int k n)
    | _, _ => none
  | .binOp .rem _ x y _ => match S.op x, S.op y with
    | some (.int k a), some (.int k' b) => some ([.prop (k = k' ∧ b ≠ 0 ∧ a.tmod b = n)], .int k n)
    | _, _ => none
  | _ => none

def evalShift (S : Env) (o : Oper) (n : Int) : Option (List Need × Value) :=
  match o.op with
  | .binOp .shl _ x y _ => match S.op x, S.op y with
    | some (.int k a), some (.int _ b) => some ([.prop (0 ≤ b ∧ k.wrap (a * 2 ^ (min b.toNat k.bits)) = n)], .int k n)
    | _, _ => none
  | .binOp .shr _ x y _ => match S.op x, S.op y with
    | some (.int k a), some (.int _ b) => some ([.prop (0 ≤ b ∧ a.fdiv (2 ^ (min b.toNat k.bits)) = n)], .int k n)
    | _, _ => none
  | _ => none

def evalAdd2 (S : Env) (o : Oper) : Option (List Need × Value) :=
  match o.op with
  | .binOp .add _ x y _ => match S.op x, S.op y with
    | some (.string a), some (.string b) => some ([.prop (((a.size + b.size : Nat) : Int) ≤ IntKind.i64.max)], .string (a ++ b))
    | _, _ => none
  | _ => none

def evalLenMap (P : Program) (S : Env) (o : Oper) (es : Array MapEntry) (clock : Nat) : Option (List Need × Value) :=
  match o.op with
  | .call c =>
    match c.callee, c.args.toList, c.argTypes.toList with
    | .builtin .len, [x], [t] => match P.underlying t, S.op x with
      | some (.map _ _), some (.map (some r)) => some ([.map r es clock], .int .i64 es.size)
      | _, _ => none
    | _, _, _ => none
  | _ => none

def evalOp (P : Program) (S : Env) (o : Oper) : Hint → Option (List Need × Value)
  | .gen ans => evalGen P S o ans
  | .agg vs => evalAgg P S o vs
  | .at_ => evalAt P S o
  | .byte b => evalByte P S o b
  | .elem v => evalElem P S o v
  | .sub l h => evalSub P S o l h
  | .div n => evalDiv S o n
  | .shift n => evalShift S o n
  | .add2 => evalAdd2 S o
  | .lenMap es c => evalLenMap P S o es c
  | .as_ v h => match evalOp P S o h with
    | some (n, u) => some (n ++ [.prop (u = v)], v)
    | none => none
end Go.Sx
