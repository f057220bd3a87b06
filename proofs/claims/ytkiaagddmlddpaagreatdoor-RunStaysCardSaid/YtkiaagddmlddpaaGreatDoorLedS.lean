/-
  slices.SortFunc at a ledger's items.
-/
import Derived.Test.YtkiaagddmlddpaaGreatDoorLedL
namespace Go.Proofs.YtkiaagddmlddpaaGreatDoor
open Go.RowKit Go.Sx Go.Lib Go.Sort Go.Shelf
set_option linter.unusedVariables false
set_option linter.unusedSimpArgs false
set_option maxRecDepth 100000

def encItem (x : ItemV) : List Value := [.string x.key, .string x.value]
instance : Inhabited ItemV := ⟨⟨⟨#[]⟩, ⟨#[]⟩⟩⟩
def cmpItem (x y : ItemV) : Int := Lib.compareBytes x.key.data.toList y.key.data.toList

theorem cmpB_lt : ∀ (a b : List UInt8), decide (Lib.compareBytes a b < 0) = Op.bytesLess a b
  | [], [] => rfl
  | [], _ :: _ => rfl
  | _ :: _, [] => rfl
  | a :: xs, b :: ys => by
    simp only [Lib.compareBytes, Op.bytesLess]
    by_cases h : a < b
    · simp [h]
    · by_cases h2 : b < a
      · have hne : ¬ a = b := fun e => by subst e; exact h h2
        simp [h, h2, hne]
      · have he : a = b := by
          have h3 : ¬ a.toNat < b.toNat := h
          have h4 : ¬ b.toNat < a.toNat := h2
          exact UInt8.toNat_inj.1 (by omega)
        subst he
        simp [h, cmpB_lt xs ys]

theorem bl_irrefl : ∀ a : List UInt8, Op.bytesLess a a = false
  | [] => rfl
  | a :: xs => by simp [Op.bytesLess, bl_irrefl xs]
theorem bl_trans : ∀ a b c : List UInt8, Op.bytesLess a b = true → Op.bytesLess b c = true → Op.bytesLess a c = true
  | _, _, [], _, h => by cases ‹List UInt8› <;> simp [Op.bytesLess] at h
  | _, [], _ :: _, h, _ => by simp [Op.bytesLess] at h
  | [], _ :: _, _ :: _, _, _ => rfl
  | a :: xs, b :: ys, c :: zs, h1, h2 => by
    simp only [Op.bytesLess, Bool.or_eq_true, Bool.and_eq_true, decide_eq_true_eq, beq_iff_eq] at *
    rcases h1 with h1 | ⟨rfl, h1⟩
    · rcases h2 with h2 | ⟨rfl, h2⟩
      · left
        have h3 : a.toNat < b.toNat := h1
        have h4 : b.toNat < c.toNat := h2
        exact (show a.toNat < c.toNat by omega)
      · exact .inl h1
    · rcases h2 with h2 | ⟨rfl, h2⟩
      · exact .inl h2
      · exact .inr ⟨rfl, bl_trans xs ys zs h1 h2⟩
theorem bl_total : ∀ a b : List UInt8, Op.bytesLess a b = false → Op.bytesLess b a = false → a = b
  | [], [], _, _ => rfl
  | [], _ :: _, h, _ => by simp [Op.bytesLess] at h
  | _ :: _, [], _, h => by simp [Op.bytesLess] at h
  | a :: xs, b :: ys, h1, h2 => by
    simp only [Op.bytesLess, Bool.or_eq_false_iff, Bool.and_eq_false_iff, decide_eq_false_iff_not, beq_eq_false_iff_ne] at h1 h2
    have h3 : ¬ a.toNat < b.toNat := h1.1
    have h4 : ¬ b.toNat < a.toNat := h2.1
    have he : a = b := UInt8.toNat_inj.1 (by omega)
    subst he
    rw [bl_total xs ys (h1.2.resolve_left (fun h => h rfl)) (h2.2.resolve_left (fun h => h rfl))]

theorem slt_irrefl (a : ByteArray) : slt a a = false := bl_irrefl _
theorem slt_trans {a b c : ByteArray} (h1 : slt a b = true) (h2 : slt b c = true) : slt a c = true := bl_trans _ _ _ h1 h2
theorem slt_total {a b : ByteArray} (h1 : slt a b = false) (h2 : slt b a = false) : a = b := by
  have := bl_total _ _ h1 h2
  have h3 := strEq a b
  rw [this] at h3
  simpa using h3
theorem ltItem (x y : ItemV) : ltOf cmpItem x y = slt x.key y.key := by
  unfold ltOf cmpItem slt
  rw [cmpB_lt, ByteArray.toList_eq, ByteArray.toList_eq]
theorem swoItem : SWO (ltOf cmpItem) where
  irrefl x := by rw [ltItem]; exact slt_irrefl _
  trans x y z h1 h2 := by rw [ltItem] at *; exact slt_trans h1 h2
  ntrans x y z h1 h2 := by
    rw [ltItem] at *
    cases h : slt x.key z.key with
    | false => rfl
    | true =>
      exfalso
      cases h3 : slt y.key x.key with
      | true => rw [slt_trans h3 h] at h2; cases h2
      | false =>
        have := slt_total h1 h3
        rw [this] at h
        rw [h] at h2
        cases h2

set_option maxHeartbeats 1000000 in
theorem cmp43 (x y : ItemV) (W : World) : Calls Tryz.prog 45 #[.agg #[.string x.key, .string x.value], .agg #[.string y.key, .string y.value]] W fun e w' => e = .returned (.int .i64 (cmpItem x y)) ∧ ∃ q os', w' = grow (W.drewN q) os' := by
  have hcon := fun W' => Tryz.strings_Compare x.key y.key W'
  change ∀ W', Calls Tryz.prog 46 _ _ _ at hcon
  change Calls Tryz.prog 45 _ W fun e w' => e = .returned (.int .i64 (Lib.compareBytes x.key.data.toList y.key.data.toList)) ∧ _
  generalize Lib.compareBytes x.key.data.toList y.key.data.toList = r at hcon ⊢
  go_enter Tryz.func45, Tryz.ntmps45
  go_wp2_with (go_at_call 46; refine (hcon _).mono ?_; rintro e w' ⟨rfl, rfl⟩)
  go_ret
  exact ⟨rfl, 0, _, by rw [alloc_eq_grow, alloc_eq_grow, grow_grow]; rfl⟩

theorem cmpLays43 (blk off size : Nat) (w : World) : CmpLays Tryz.prog 45 #[] encItem 2 cmpItem blk off size w := fun _ _ _ _ x y => cmp43 x y _

theorem flatK_item (l : List ItemV) : (flatK encItem 2 l.toArray).toList = l.flatMap fun x => (ItemV.cells x).toList := by
  have hsz : (flatK encItem 2 l.toArray).size = l.length * 2 := by simp
  have hln := flat_length (f := ItemV.cells) (size := 2) (fun _ => rfl) l
  apply List.ext_getElem?
  intro t
  by_cases ht : t < l.length * 2
  · have h1 := flat_get (f := ItemV.cells) (size := 2) (fun _ => rfl) (default : ItemV) l (t / 2) (t % 2) (by omega) (by omega)
    rw [show t / 2 * 2 + t % 2 = t by omega] at h1
    rw [h1, Array.getElem?_toList, Array.getElem?_eq_getElem (by omega)]
    have h2 := get_flatK encItem 2 l.toArray t (by simpa using ht)
    rw [getElem!_pos _ t (by omega)] at h2
    rw [h2]
    have h3 : l.toArray[t / 2]! = l.getD (t / 2) default := by
      rw [getElem!_pos _ (t / 2) (by simp; omega)]
      simp [List.getD_eq_getElem?_getD, List.getElem?_eq_getElem (show t / 2 < l.length by omega)]
    rw [h3]
    have h4 : t % 2 = 0 ∨ t % 2 = 1 := by omega
    rcases h4 with h4 | h4 <;> rw [h4] <;> rfl
  · rw [List.getElem?_eq_none (by rw [Array.length_toList, hsz]; omega), List.getElem?_eq_none (by rw [hln]; omega)]

theorem sort_spec {w0 w : World} {L : List Asn} {ad : Option Addr} {c : Nat} (l : List ItemV) (hn : l.length < 4611686018427387904) (hs : St w0 (Sl ad c 84 2 ItemV.cells l :: L) w) :
    Calls Tryz.prog 44 #[.slice ad l.length c, .func (.func 45) #[] #[]] w (Ret fun rv w' => rv = .tuple #[] ∧ ∃ l', l'.Perm l ∧ (l'.Pairwise fun x y => slt y.key x.key = false) ∧ St w0 (Sl ad c 84 2 ItemV.cells l' :: L) w') := by
  have h0 : w.ownsRow 0 84 2 (.slice ad l.length c) l.length (l.flatMap fun x => (ItemV.cells x).toList) := hs.holds _ (List.mem_cons_self ..)
  rcases h0.2 with ⟨h1, h2⟩ | ⟨g, cap, cur, hv, -, hg, hnc, hcm, hcs, htake⟩
  · have hl : l = [] := List.eq_nil_of_length_eq_zero h2
    subst hl
    refine (Tryz.slices_SortFunc_none (α := ItemV) ad c (.func (.func 45) #[] #[]) w).mono ?_
    rintro e w' ⟨rfl, rfl⟩
    exact ⟨rfl, [], List.Perm.refl _, List.Pairwise.nil, hs⟩
  · simp only [Value.slice.injEq] at hv
    obtain ⟨rfl, -, rfl⟩ := hv
    have hlt : g < w.heap.size := (Array.getElem?_eq_some_iff.1 hg).1
    have hF := flatK_item l
    have hFs : (flatK encItem 2 l.toArray).size = l.length * 2 := by simp
    have hmul : l.length * 2 ≤ c * 2 := Nat.mul_le_mul_right _ hnc
    have hcurF : ∀ j, j < l.length * 2 → cur[j]? = some (flatK encItem 2 l.toArray)[j]! := by
      intro j hj
      have h3 : (cur.toList.take (l.length * 2))[j]? = (flatK encItem 2 l.toArray).toList[j]? := by rw [htake, hF]
      rw [List.getElem?_take, if_pos hj, Array.getElem?_toList, Array.getElem?_toList] at h3
      rw [h3, getElem!_pos _ j (by omega), Array.getElem?_eq_getElem (by omega)]
    have hH : HoldsK encItem 2 w g 0 l.toArray := by
      intro j hj
      rw [hFs] at hj
      refine ⟨?_, ?_⟩
      · simp only [World.cell?, hg, Nat.zero_add, hcurF j hj]
        rfl
      · simp only [World.frozen?, hg]
        simp
    have hcon := Tryz.slices_SortFunc (α := ItemV) 2 Tryz.isAgg84 Tryz.sizeOf84 encItem (fun _ => rfl) (fun x v hv => by simp [encItem] at hv; rcases hv with rfl | rfl <;> rfl) cmpItem swoItem 45 #[] g 0 c l.toArray w
      (enters_of Tryz.func45 (by kernel_rfl) rfl) (cmpLays43 g 0 l.toArray.size w) hH hlt (by simpa using hn)
    refine Calls.mono hcon ?_
    rintro e w' ⟨rfl, d', n, os, ⟨hds, -, hperm⟩, hsort, rfl⟩
    simp only [List.size_toArray] at hds hsort hperm
    have hdl : d'.toList.length = l.length := by simpa using hds
    have hp' : d'.toList.Perm l := by
      have e1 : (d'.extract 0 l.length).toList = d'.toList := by rw [← hds]; simp
      have e2 : (l.toArray.extract 0 l.length).toList = l := by simp
      rw [e1, e2] at hperm
      exact hperm
    have hF' := flatK_item d'.toList
    rw [Array.toArray_toList] at hF'
    have hFs' : (flatK encItem 2 d').size = l.length * 2 := by simp [hds]
    have hah : (Sort.ahead w n).heap = w.heap := rfl
    refine ⟨rfl, d'.toList, hp', ?_, ?_⟩
    · rw [List.pairwise_iff_getElem]
      intro i j hi hj hij
      have h5 := hsort i j (Nat.zero_le _) hij (by omega)
      rw [ltItem, getElem!_pos _ j (by simpa using hj), getElem!_pos _ i (by simpa using hi)] at h5
      simpa using h5
    · have hnew : (sortWorldK encItem 2 w g 0 n d' os).heap[g]? = some (.cells (putCells id 0 (flatK encItem 2 d') cur) 84 (0, 0)) := by
        simp only [sortWorldK, grow, putRowK, putRow, mapBlock, hah]
        rw [Array.getElem?_append_left (by simpa using hlt)]
        simp only [Array.getElem?_modify, if_true, hg, Option.map_some, onCells]
      refine St.step hs rfl rfl rfl (by simp [sortWorldK, grow, putRowK, putRow, mapBlock, hah]) (fun k hk hnk => ?_) ?_ (fun k hk => ⟨.inl hk, ?_⟩)
      · have hne : ¬ g = k := fun e => hnk (by show (some g : Option Nat) = some k; rw [e])
        simp only [sortWorldK, grow, putRowK, putRow, mapBlock, hah]
        rw [Array.getElem?_append_left (by simpa using hk)]
        simp only [Array.getElem?_modify, if_neg hne]
      · show World.ownsRow _ 0 84 2 (.slice _ d'.toList.length c) d'.toList.length _
        rw [hdl]
        refine ⟨by rw [← hdl]; exact flat_length (f := ItemV.cells) (size := 2) (fun _ => rfl) d'.toList, .inr ⟨g, c, _, rfl, Nat.zero_le _, hnew, hnc, hcm, by simp [putCells, hcs], ?_⟩⟩
        rw [← hF']
        apply List.ext_getElem?
        intro t
        rw [List.getElem?_take]
        split
        · rename_i ht
          rw [Array.getElem?_toList, Array.getElem?_toList]
          simp only [putCells, Array.getElem?_mapIdx]
          rw [Array.getElem?_eq_getElem (show t < cur.size by omega), Option.map_some, if_pos ⟨Nat.zero_le _, by omega⟩, Array.getElem?_eq_getElem (show t < (flatK encItem 2 d').size by omega)]
          simp only [Nat.sub_zero, id]
          rw [getElem!_pos _ t (by omega)]
        · rename_i ht
          rw [Array.getElem?_toList, Array.getElem?_eq_none (by omega)]
      · have hk' : (some g : Option Nat) = some k := hk
        have := Option.some.inj hk'
        subst this
        exact (Array.getElem?_eq_some_iff.1 hnew).1
end Go.Proofs.YtkiaagddmlddpaaGreatDoor
