/-
  The bytes of a state: what they are; the hypotheses of the state's contracts out of what holds of every state.
-/
import Derived.Test.YtkiaagddmlddpaaGreatDoorStaB
import Derived.Test.YtkiaagddmlddpaaGreatDoorStaL
import Derived.Test.YtkiaagddmlddpaaGreatDoorSxU
namespace Go.Proofs.YtkiaagddmlddpaaGreatDoor
open Go.RowKit Go.Sx
set_option linter.unusedVariables false
set_option linter.unusedSimpArgs false
set_option maxRecDepth 100000

def Byt (l : List Int) : Prop := ∀ x ∈ l, 0 ≤ x ∧ x < 256
theorem Byt.app {l m : List Int} (h : Byt l) (h2 : Byt m) : Byt (l ++ m) := fun x hx => (List.mem_append.1 hx).elim (h x) (h2 x)
theorem byt_wd (n : Int) : Byt (wd n) := by
  intro x hx
  obtain ⟨k, -, rfl⟩ := List.mem_map.1 hx
  exact u8wrap_b _
theorem byt_str (s : ByteArray) : Byt (strB s) := by
  intro x hx
  obtain ⟨b, -, rfl⟩ := List.mem_map.1 hx
  have := b.toNat_lt
  omega
theorem byt_txt (s : ByteArray) : Byt (txtB s) := (byt_wd _).app (byt_str s)
theorem byt_flat {α : Type} {F : α → List Int} (h : ∀ x, Byt (F x)) (l : List α) : Byt (l.flatMap F) := by
  intro x hx
  obtain ⟨y, -, hy⟩ := List.mem_flatMap.1 hx
  exact h y x hy
theorem byt_tail (tl : List LastV) (l : List ItemV) : Byt (tailB tl l) :=
  ((byt_flat (fun x => ((byt_wd _).app (byt_wd _)).app (byt_txt _)) tl).app (byt_wd _)).app (byt_flat (fun x => (byt_txt _).app (byt_txt _)) l)
theorem tail_long (tl : List LastV) (l : List ItemV) : 8 ≤ (tailB tl l).length := by
  simp only [tailB, List.length_append, wd_length]; omega
theorem drop_wd (n : Int) (l : List Int) : (wd n ++ l).drop 8 = l := by
  rw [List.drop_append_of_le_length (by rw [wd_length]; omega), List.drop_of_length_le (by rw [wd_length]; omega), List.nil_append]
theorem byt_drop (n : Int) (tl : List LastV) (l : List ItemV) : ∀ x ∈ (wd n ++ tailB tl l).drop 8, 0 ≤ x ∧ x < 256 := by
  rw [drop_wd]; exact byt_tail tl l
theorem pos_drop (n : Int) (tl : List LastV) (l : List ItemV) : 0 < ((wd n ++ tailB tl l).drop 8).length := by
  rw [drop_wd]; have := tail_long tl l; omega
theorem long_all (n : Int) (tl : List LastV) (l : List ItemV) : (wd n ++ tailB tl l).length = 8 + (tailB tl l).length := by
  rw [List.length_append, wd_length]
theorem TInv.lastS {s : TS} (h : TInv s) : ∀ x ∈ s.1, LastS x := fun x hx => ⟨(h.all x hx).time, (h.all x hx).rep.err, (h.all x hx).rep.value⟩
theorem TInv.itemS {s : TS} (h : TInv s) : ∀ x ∈ lst s.2, ItemS x := fun x hx => by
  have h1 := lst_mem.1 hx
  have h2 := (h.inv.key _ h1).2
  exact ⟨by simp only at h2; omega, h.inv.val _ h1⟩
theorem TInv.few {s : TS} (h : TInv s) : (lst s.2).length ≤ 64 := by rw [lst_length]; exact h.inv.len
/-- What a request says of its own time. -/
theorem twiceF {t : List LastV} {m : Pairs} (h : TInv (t, m)) {r : ReqV} (ht : 0 ≤ r.time ∧ r.time ≤ 18446744073709551615) : (sdo (sdo t m r).2.1 (sdo t m r).2.2 r).1.2 = false := (twice h ht).1
theorem twice2 {t : List LastV} {m : Pairs} (h : TInv (t, m)) {r : ReqV} (ht : 0 ≤ r.time ∧ r.time ≤ 18446744073709551615) : (sdo (sdo t m r).2.1 (sdo t m r).2.2 r).2 = (sdo t m r).2 := (twice h ht).2.1
theorem twiceR {t : List LastV} {m : Pairs} (h : TInv (t, m)) {r : ReqV} (ht : 0 ≤ r.time ∧ r.time ≤ 18446744073709551615) (hq : (sdo t m r).1.2 = true) : (sdo (sdo t m r).2.1 (sdo t m r).2.2 r).1.1 = (sdo t m r).1.1 := (twice h ht).2.2 hq
theorem tnext {t : List LastV} {m : Pairs} (h : TInv (t, m)) {r : ReqV} (ht : 0 ≤ r.time ∧ r.time ≤ 18446744073709551615) : TInv ((sdo t m r).2.1, (sdo t m r).2.2) := sdo_inv r h ht
end Go.Proofs.YtkiaagddmlddpaaGreatDoor
