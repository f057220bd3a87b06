/-
  Sx, part U: words of bits, as plain functions. Proved once, for any program. Conditions: none beside each theorem's own.
-/
import Derived.Test.YtapmfbjlhjekiaaGreatDoorSxR
namespace Go.Sx
open Go.RowKit
set_option linter.unusedVariables false
set_option linter.unusedSimpArgs false

def iAnd (k : IntKind) (x y : Int) : Int := k.wrap ((BitVec.ofInt k.bits x &&& BitVec.ofInt k.bits y).toNat : Int)
def iOr (k : IntKind) (x y : Int) : Int := k.wrap ((BitVec.ofInt k.bits x ||| BitVec.ofInt k.bits y).toNat : Int)
def iXor (k : IntKind) (x y : Int) : Int := k.wrap ((BitVec.ofInt k.bits x ^^^ BitVec.ofInt k.bits y).toNat : Int)
def iAndNot (k : IntKind) (x y : Int) : Int := k.wrap ((BitVec.ofInt k.bits x &&& ~~~ BitVec.ofInt k.bits y).toNat : Int)
def iNot (k : IntKind) (x : Int) : Int := iXor k (if k.signed then -1 else k.max) x
def iShl (k : IntKind) (x y : Int) : Int := k.wrap (x * 2 ^ (min y.toNat k.bits))
def iShr (k : IntKind) (x y : Int) : Int := x.fdiv (2 ^ (min y.toNat k.bits))
theorem u32wrap_b (x : Int) : 0 ≤ IntKind.u32.wrap x ∧ IntKind.u32.wrap x < 4294967296 := by
  have : IntKind.u32.wrap x = x % 4294967296 := by
    simp [IntKind.wrap, IntKind.bits, IntKind.signed]
  rw [this]; omega
theorem u8wrap_b (x : Int) : 0 ≤ IntKind.u8.wrap x ∧ IntKind.u8.wrap x < 256 := by
  have : IntKind.u8.wrap x = x % 256 := by
    simp [IntKind.wrap, IntKind.bits, IntKind.signed]
  rw [this]; omega
theorem uwrap_nn {k : IntKind} (h : k.signed = false) (x : Int) : 0 ≤ k.wrap x := by
  cases k <;> first | (exact absurd h (by decide)) | (simp [IntKind.wrap, IntKind.bits, IntKind.signed]; omega)
/-! Parts of an array: a slice of it from some place on. -/
theorem subArrL {b off n lo s h m : Nat} (h1 : lo < n) (h2 : h - lo = m) : Value.slice (some (if n = lo then Addr.mk b off none else (Addr.mk b off none).add (lo * s))) (h - lo) (n - lo) = .slice (some ⟨b, off + lo * s, none⟩) m (n - lo) := by
  rw [if_neg (by omega), add_mk, h2]
theorem ptrAddM (b e n s : Nat) : Value.pointer (some ((Addr.mk b (0 + e * s) none).add (n * s))) = .pointer (some ⟨b, 0 + (e + n) * s, none⟩) := by
  rw [add_mk, Nat.add_assoc, ← Nat.add_mul]
/-- An element of an array that is a value, told as a list. -/
theorem elemArr {α : Type} {f : α → Array Value} (hf : CellF f 1) {l : List α} {d : α} {n : Int} {k : Nat} (hn : n.toNat = k) (hk : k < l.length) {v : Value} (hv : (f (l.getD k d))[0]? = some v) : (arrCells f l)[n.toNat * 1]? = some v := by
  subst hn
  have := arr_get hf.size d hk (j := 0) (by omega)
  rw [Nat.add_zero] at this
  rw [this, hv]
end Go.Sx
