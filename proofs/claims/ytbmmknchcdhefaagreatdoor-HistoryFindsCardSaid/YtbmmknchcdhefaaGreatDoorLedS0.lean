/-
  The order of a ledger's items (a seat without List).
-/
import Derived.Test.YtbmmknchcdhefaaGreatDoorLedL
namespace Go.Proofs.YtbmmknchcdhefaaGreatDoor
open Go.RowKit Go.Sx Go.Lib
set_option linter.unusedVariables false
set_option linter.unusedSimpArgs false
set_option maxRecDepth 100000
theorem bl_irrefl : ∀ a : List UInt8, Op.bytesLess a a = false
  | [] => rfl
  | a :: xs => by simp [Op.bytesLess, bl_irrefl xs]
theorem bl_trans : ∀ a b c : List UInt8, Op.bytesLess a b = true → Op.bytesLess b c = true → Op.bytesLess a c = true
  | _, _, [], _, h => by cases ‹List UInt8› <;> simp [Op.bytesLess] at h
  | _, [], _ :: _, h, _ => by simp [Op.bytesLess] at h
  | [], _ :: _, _ :: _, _, _ => rfl
  | a :: xs, b :: ys, c :: zs, h1, h2 => by
    simp only [Op.bytesLess, Bool.or_eq_true, Bool.and_eq_true, decide_eq_true_eq, beq_iff_eq] at *
    rcases h1 with h1 | ⟨rfl, h1⟩
    · rcases h2 with h2 | ⟨rfl, h2⟩
      · left
        have h3 : a.toNat < b.toNat := h1
        have h4 : b.toNat < c.toNat := h2
        exact (show a.toNat < c.toNat by omega)
      · exact .inl h1
    · rcases h2 with h2 | ⟨rfl, h2⟩
      · exact .inl h2
      · exact .inr ⟨rfl, bl_trans xs ys zs h1 h2⟩
theorem bl_total : ∀ a b : List UInt8, Op.bytesLess a b = false → Op.bytesLess b a = false → a = b
  | [], [], _, _ => rfl
  | [], _ :: _, h, _ => by simp [Op.bytesLess] at h
  | _ :: _, [], _, h => by simp [Op.bytesLess] at h
  | a :: xs, b :: ys, h1, h2 => by
    simp only [Op.bytesLess, Bool.or_eq_false_iff, Bool.and_eq_false_iff, decide_eq_false_iff_not, beq_eq_false_iff_ne] at h1 h2
    have h3 : ¬ a.toNat < b.toNat := h1.1
    have h4 : ¬ b.toNat < a.toNat := h2.1
    have he : a = b := UInt8.toNat_inj.1 (by omega)
    subst he
    rw [bl_total xs ys (h1.2.resolve_left (fun h => h rfl)) (h2.2.resolve_left (fun h => h rfl))]
theorem slt_irrefl (a : ByteArray) : slt a a = false := bl_irrefl _
theorem slt_trans {a b c : ByteArray} (h1 : slt a b = true) (h2 : slt b c = true) : slt a c = true := bl_trans _ _ _ h1 h2
theorem slt_total {a b : ByteArray} (h1 : slt a b = false) (h2 : slt b a = false) : a = b := by
  have := bl_total _ _ h1 h2
  have h3 := strEq a b
  rw [this] at h3
  simpa using h3
theorem slt_ntrans {a b c : ByteArray} (h1 : slt a b = false) (h2 : slt b c = false) : slt a c = false := by
  cases h : slt a c with
  | false => rfl
  | true =>
    exfalso
    cases h3 : slt b a with
    | true => rw [slt_trans h3 h] at h2; cases h2
    | false =>
      have := slt_total h1 h3
      rw [this] at h
      rw [h] at h2
      cases h2
end Go.Proofs.YtbmmknchcdhefaaGreatDoor
