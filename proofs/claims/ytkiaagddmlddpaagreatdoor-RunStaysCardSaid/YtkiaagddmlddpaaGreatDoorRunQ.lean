/-
  What is listed makes the ledger again; a state's bytes, part by part. Conditions: none beside each theorem's own.
-/
import Derived.Test.YtkiaagddmlddpaaGreatDoorRunP
import Derived.Test.YtkiaagddmlddpaaGreatDoorLawO
import Derived.Test.YtkiaagddmlddpaaGreatDoorSesO
namespace Go.Proofs.YtkiaagddmlddpaaGreatDoor
open Go.RowKit Go.Sx
set_option linter.unusedVariables false
set_option linter.unusedSimpArgs false

theorem pairs_mem {l : List ItemV} {x : ByteArray × ByteArray} : x ∈ pairsOf l ↔ (⟨x.1, x.2⟩ : ItemV) ∈ l := by
  rw [pairsOf, List.mem_map]
  constructor
  · rintro ⟨y, hy, rfl⟩; exact hy
  · intro h; exact ⟨_, h, rfl⟩
theorem pairs_keys (l : List ItemV) : (pairsOf l).map (fun y : ByteArray × ByteArray => y.1) = l.map (·.key) := by simp [pairsOf]
theorem pairs_inv {m : Pairs} (h : Inv m) : Inv (pairsOf (lst m)) := by
  refine ⟨?_, ?_, fun x hx => ?_, fun x hx => ?_⟩
  · show ((pairsOf (lst m)).map _).Nodup
    rw [pairs_keys]; exact lst_keys h.keys
  · rw [pairsOf, List.length_map, lst_length]; exact h.len
  · exact h.key _ (lst_mem.1 (pairs_mem.1 hx))
  · exact h.val _ (lst_mem.1 (pairs_mem.1 hx))
theorem lst_pairs {m : Pairs} (h : Inv m) : lst (pairsOf (lst m)) = lst m := by
  refine lst_ext (pairs_inv h).keys h.keys fun k => ?_
  cases hg : aget m k with
  | some v => exact aget_mem (pairs_inv h).keys (pairs_mem.2 (lst_mem.2 (aget_some_mem hg)))
  | none =>
    refine aget_none_of fun x hx e => ?_
    have h1 := lst_mem.1 (pairs_mem.1 hx)
    have h2 := aget_mem h.keys h1
    rw [e, hg] at h2
    cases h2
theorem okItems_of : ∀ {l : List ItemV} {was : ByteArray}, (∀ x ∈ l, keyed x.key = true ∧ valued x.value = true) → (∀ x ∈ l, slt was x.key = true) → (l.Pairwise fun x y => slt x.key y.key = true) → okItems was l = true
  | [], _, _, _, _ => rfl
  | x :: l, was, h1, h2, h3 => by
    have a1 := h1 x (List.mem_cons_self ..)
    have a2 := h2 x (List.mem_cons_self ..)
    have a3 : slt x.key was = false := by
      cases hs : slt x.key was with
      | false => rfl
      | true => have := slt_trans a2 hs; rw [slt_irrefl] at this; cases this
    have a4 : ¬ x.key = was := fun e => by rw [e, slt_irrefl] at a2; cases a2
    have h3' := List.pairwise_cons.1 h3
    rw [okItems, a1.1, a1.2, a3, decide_eq_false a4, okItems_of (fun y hy => h1 y (List.mem_cons_of_mem _ hy)) h3'.1 h3'.2]
    rfl
theorem slt_nil {s : ByteArray} (h : 1 ≤ s.size) : slt ⟨#[]⟩ s = true := by
  have : s.data.toList ≠ [] := fun e => by
    have h1 : s.data.toList.length = s.size := Array.length_toList
    rw [e] at h1; simp at h1; omega
  unfold slt
  cases hs : s.data.toList with
  | nil => exact absurd hs this
  | cons c r => rw [ByteArray.toList_eq, ByteArray.toList_eq]; simp [Op.bytesLess, hs]
theorem ofOK_lst {m : Pairs} (h : Inv m) : ofOK (lst m) = true := by
  have h1 : okItems ⟨#[]⟩ (lst m) = true := by
    refine okItems_of (fun x hx => ?_) (fun x hx => ?_) (lst_rises h.keys)
    · have h2 := lst_mem.1 hx
      exact ⟨keyed_iff.2 (h.key _ h2), valued_iff.2 (h.val _ h2)⟩
    · exact slt_nil (h.key _ (lst_mem.1 hx)).1
  rw [ofOK, h1, lst_length, decide_eq_true h.len]
  rfl
theorem bad_set {r : ReqV} {x : RepV} (h : r.time ≠ 0) : badLast ⟨r.time, x⟩ = false := by
  unfold badLast
  have : (r.time == 0) = false := by simpa using h
  simp [h]
theorem tab_ok : ∀ (l : List ReqV) (s : TS), TInv s → (∀ q ∈ l, ReqV.OK q) → (∀ x ∈ s.1, badLast x = false) → ∀ x ∈ (l.foldl (fun s r => (sdo s.1 s.2 r).2) s).1, badLast x = false
  | [], _, _, _, h => h
  | r :: l, s, hi, hok, h => by
    refine tab_ok l (sdo s.1 s.2 r).2 (sdo_inv r hi (hok r (List.mem_cons_self ..)).time) (fun q hq => hok q (List.mem_cons_of_mem _ hq)) fun x hx => ?_
    cases hq : (sdo s.1 s.2 r).1.2 with
    | false => rw [sdo_false hi hq] at hx; exact h x hx
    | true =>
      obtain ⟨hv, _, he⟩ := sdo_true hi hq
      rw [he] at hx
      rcases List.mem_or_eq_of_mem_set hx with hx | hx
      · exact h x hx
      · rw [hx]; exact bad_set hv.2.2
theorem trun_ok {l : List ReqV} (hok : ∀ q ∈ l, ReqV.OK q) : tofOK (trun l).1 = true := by
  have h1 : (trun l).1.any badLast = false := by
    rw [List.any_eq_false]
    intro x hx
    rw [tab_ok l _ t0_inv hok (fun x hx => by rw [List.eq_of_mem_replicate hx]; decide) x hx]
    decide
  rw [tofOK, h1, (trun_inv hok).len]
  rfl
/-- What is left of a table's bytes behind k clients. -/
def tabR (tl : List LastV) (k : Nat) (z : List Int) : List Int := (tl.drop k).flatMap lastB ++ z
theorem tabR_zero (tl : List LastV) (z : List Int) : tabR tl 0 z = tl.flatMap lastB ++ z := rfl
theorem tabR_succ {tl : List LastV} {k : Nat} (z : List Int) (hk : k < tl.length) : tabR tl k z = wd (tl.getD k dLast).time ++ (wd (tl.getD k dLast).reply.err ++ (txtB (tl.getD k dLast).reply.value ++ tabR tl (k + 1) z)) := by
  rw [tabR, drop_getD (d := dLast) hk, List.flatMap_cons, lastB, tabR]
  simp only [List.append_assoc]
theorem tabR_all {tl : List LastV} {k : Nat} (z : List Int) (hk : ¬ k < tl.length) : tabR tl k z = z := by
  rw [tabR, List.drop_eq_nil_of_le (by omega)]; rfl
def itmR (l : List ItemV) (k : Nat) : List Int := (l.drop k).flatMap itemB
theorem itmR_succ {l : List ItemV} {k : Nat} (hk : k < l.length) : itmR l k = txtB (l.getD k dItem).key ++ (txtB (l.getD k dItem).value ++ itmR l (k + 1)) := by
  rw [itmR, drop_getD (d := dItem) hk, List.flatMap_cons, itemB, itmR]
  simp only [List.append_assoc]
theorem itmR_all {l : List ItemV} {k : Nat} (hk : ¬ k < l.length) : itmR l k = [] := by
  rw [itmR, List.drop_eq_nil_of_le (by omega)]; rfl
theorem tk_wd {r z : List Int} {v : Int} (h : r = wd v ++ z) : r.take 8 = wd v := by rw [h]; exact List.take_left' (wd_length _)
theorem dr_wd {r z : List Int} {v : Int} (h : r = wd v ++ z) : r.drop 8 = z := by rw [h]; exact List.drop_left' (wd_length _)
theorem tk_txt {r z : List Int} {s : ByteArray} (h : r = txtB s ++ z) : r.take (8 + s.size) = txtB s := by rw [h]; exact List.take_left' (txtB_length _)
theorem dr_txt {r z : List Int} {s : ByteArray} (h : r = txtB s ++ z) : r.drop (8 + s.size) = z := by rw [h]; exact List.drop_left' (txtB_length _)
theorem tail_parts (cnt : Int) (tl : List LastV) (l : List ItemV) : wd cnt ++ tailB tl l = wd cnt ++ tabR tl 0 (wd (l.length : Nat) ++ itmR l 0) := by
  simp only [tailB, tabR, itmR, List.drop_zero, List.append_assoc]
end Go.Proofs.YtkiaagddmlddpaaGreatDoor
