/-
  Sx, part Q: a store into an element of a slice of one's own, or of an array told as a list. Proved once, for any program. Conditions: none beside each theorem's own.
-/
import Derived.Test.YtkeckbgkhpaofaaDoorSxO
namespace Go.Sx
open Go.RowKit
set_option linter.unusedVariables false
set_option linter.unusedSimpArgs false

section
variable {α : Type} {f : α → Array Value} {size : Nat} {l : List α}

/-- a part of an element is put -/
theorem splice_field (hf : ∀ x, (f x).size = size) {k o : Nat} (hk : k < l.length) (d x' : α) {vs : List Value} (ho : o + vs.length ≤ size) (hx : splice (f (l.getD k d)) o vs = f x') : splice (arrCells f l) (k * size + o) vs = arrCells f (l.set k x') := by
  have hl1 := arr_size hf l
  have hl2 := arr_size hf (l.set k x')
  rw [List.length_set] at hl2
  have hk2 : k * size + size ≤ l.length * size := by
    calc k * size + size = (k + 1) * size := by rw [Nat.add_mul, Nat.one_mul]
      _ ≤ l.length * size := Nat.mul_le_mul_right _ hk
  apply Array.ext_getElem?
  intro i
  rw [splice_get, hl1]
  by_cases hi : i < l.length * size
  · have hpos : 0 < size := by
      rcases Nat.eq_zero_or_pos size with h | h
      · rw [h] at hi; omega
      · exact h
    have hq : i / size < l.length := Nat.div_lt_of_lt_mul (by rw [Nat.mul_comm]; exact hi)
    have hr : i % size < size := Nat.mod_lt _ hpos
    have hi2 : i / size * size + i % size = i := by rw [Nat.mul_comm]; exact Nat.div_add_mod i size
    have e1 := arr_get (l := l) hf d hq hr
    have e2 := arr_get (l := l.set k x') hf d (k := i / size) (j := i % size) (by rw [List.length_set]; exact hq) hr
    rw [hi2] at e1 e2
    rw [e1, e2]
    by_cases hkk : i / size = k
    · have h3 : k * size + i % size = i := by rw [← hkk]; exact hi2
      have e3 : (l.set k x').getD (i / size) d = x' := by
        rw [hkk, List.getD_eq_getElem?_getD, List.getElem?_set]
        simp [hk]
      rw [e3, ← hx, splice_get, hkk, hf]
      by_cases hc : o ≤ i % size ∧ i % size < o + vs.length ∧ i % size < size
      · rw [if_pos hc, if_pos (by omega)]
        congr 1
        omega
      · rw [if_neg hc, if_neg (by omega)]
    · have hne : ¬ (k * size + o ≤ i ∧ i < k * size + o + vs.length ∧ i < l.length * size) := by
        rintro ⟨h4, h5, -⟩
        exact hkk (Nat.div_eq_of_lt_le (by omega) (by rw [Nat.add_mul, Nat.one_mul]; omega))
      rw [if_neg hne]
      have e3 : (l.set k x').getD (i / size) d = l.getD (i / size) d := by
        rw [List.getD_eq_getElem?_getD, List.getD_eq_getElem?_getD, List.getElem?_set_ne (fun e => hkk e.symm)]
      rw [e3]
  · rw [if_neg (by omega), Array.getElem?_eq_none (by omega), Array.getElem?_eq_none (by omega)]

theorem field_room (hf : ∀ x, (f x).size = size) {k o n : Nat} (hk : k < l.length) (ho : o + n ≤ size) : k * size + o + n ≤ (arrCells f l).size := by
  rw [arr_size hf]
  have : k * size + size ≤ l.length * size := by
    calc k * size + size = (k + 1) * size := by rw [Nat.add_mul, Nat.one_mul]
      _ ≤ l.length * size := Nat.mul_le_mul_right _ hk
  omega
end

section
variable {P : Program} {R0 : Exit → Act → World → Prop} {N : Nat} {K : List KItem} {S : Env} {w w0 : World} {l : List Oper} {M : List Nat} {A : Asked} {rest : PT} {L : List Asn}

/-- A store into a slice of one's own (part j). -/
theorem GoR.storeSl {i : Nat} {o : Oper} {t : TypeId} {x y : Operand} (ho : l[i]? = some o) (hop : o.op = .store t x y) (hw : wantE l.toArray S o = some true) {b off : Nat} {v : Value} {ti : TypeInfo}
    (hx : S.op x = some (.pointer (some ⟨b, off, none⟩))) (hy : S.op y = some v) (ht : P.info? t = some ti) (hs : St w0 L w) (j : Nat) {α : Type} {f : α → Array Value} {size : Nat} (hf : ∀ x, (f x).size = size) {c : Nat} {e : TypeId} {xs xs' : List α} (hj : L[j]? = some (Sl (some ⟨b, 0, none⟩) c e size f xs))
    (hsz : v.cells.size = ti.size) (h1 : v.cells.toList.all oneB = true) (hoff : off + v.cells.size ≤ (arrCells f xs).size) (hlen : xs'.length = xs.length) (hcs : splice (arrCells f xs) off v.cells.toList = arrCells f xs') {L' : List Asn} (hL : L.set j (Sl (some ⟨b, 0, none⟩) c e size f xs') = L')
    (h : ∀ w', St w0 L' w' → okAll w' (opens M A i) ∧ GoR P l M R0 K N A rest (S.setO o.dst undef) w') : GoR P l M R0 K N A (.ef i rest) S w := by
  have hp := hs.pull j hj
  have h0 : w.ownsRow 0 e size (.slice (some ⟨b, 0, none⟩) xs.length c) xs.length (xs.flatMap fun x => (f x).toList) := hp.holds _ (List.mem_cons_self ..)
  rw [arr_size hf] at hoff
  rcases h0.2 with ⟨h2, h3⟩ | ⟨g, cap, cur, hv, hg0, hg, hnc, hcm, hcur, htake⟩
  · cases h2
  · simp only [Value.slice.injEq, Option.some.injEq, Addr.mk.injEq, and_true, true_and] at hv
    obtain ⟨rfl, rfl⟩ := hv
    have hlt : b < w.heap.size := (Array.getElem?_eq_some_iff.1 hg).1
    have hnsz : xs.length * size ≤ cur.size := by rw [hcur]; exact Nat.mul_le_mul_right _ hnc
    have hr := run_storeCells (P := P) v.cells.toList w cur (0, 0) off 0 hg (fun j _ => by omega) (by simp only [Array.length_toList]; omega) h1
    simp only [Nat.add_zero] at hr
    have hcells : ∀ i, i < xs.length * size → cur[i]? = (arrCells f xs)[i]? := fun i hi => by
      have e1 : cur[i]? = cur.toList[i]? := Array.getElem?_toList.symm
      have e2 : (cur.toList.take (xs.length * size))[i]? = cur.toList[i]? := List.getElem?_take_of_lt hi
      have e3 : (arrCells f xs)[i]? = (xs.flatMap fun x => (f x).toList)[i]? := List.getElem?_toArray ..
      rw [e1, ← e2, htake, e3]
    have hnew : (splice cur off v.cells.toList).toList.take (xs'.length * size) = xs'.flatMap fun x => (f x).toList := by
      rw [hlen]
      apply List.ext_getElem?
      intro i
      have hfl := flat_length hf xs'
      rw [hlen] at hfl
      by_cases hi : i < xs.length * size
      · rw [List.getElem?_take_of_lt hi, Array.getElem?_toList]
        have e1 : (xs'.flatMap fun x => (f x).toList)[i]? = (arrCells f xs')[i]? := by rw [arrCells, List.getElem?_toArray]
        rw [e1, ← hcs, splice_get, splice_get, hcells i hi, arr_size hf]
        by_cases hc : off ≤ i ∧ i < off + v.cells.toList.length ∧ i < cur.size
        · rw [if_pos hc, if_pos ⟨hc.1, hc.2.1, hi⟩]
        · rw [if_neg hc, if_neg (fun q => hc ⟨q.1, q.2.1, by omega⟩)]
      · rw [List.getElem?_eq_none (by rw [List.length_take]; omega), List.getElem?_eq_none (by omega)]
    have hst : St w0 (Sl (some ⟨b, 0, none⟩) c e size f xs' :: L.eraseIdx j) (putBlock w b (.cells (splice cur off v.cells.toList) e (0, 0))) := by
      refine St.step hp rfl rfl rfl (by simp [putBlock]) (fun k hk hn => ?_) ?_ (fun k hk => ⟨.inl hk, ?_⟩)
      · simp only [putBlock, Array.getElem?_setIfInBounds]
        rw [if_neg (fun e => hn (by subst e; rfl))]
      · show World.ownsRow _ 0 e size (.slice _ xs'.length c) xs'.length _
        refine ⟨flat_length hf xs', .inr ⟨b, c, splice cur off v.cells.toList, rfl, hg0, by simp [putBlock, hlt], by rw [hlen]; exact hnc, hcm, by rw [splice_size]; exact hcur, hnew⟩⟩
      · have h5 : (some b : Option Nat) = some k := hk
        have h6 := Option.some.inj h5
        subst h6
        simpa [putBlock] using hlt
    obtain ⟨k1, k2⟩ := h _ (hL ▸ hst.perm (perm_set _ hj))
    refine GoR.run ho hw _ _ (fun a hfit => .inr ⟨?_, rfl⟩) k1 k2
    have hx' := hfit.op hx
    have hy' := hfit.op hy
    generalize a.eval = ρ at hx' hy' ⊢
    have h2 : (storeVar t ⟨b, off, none⟩ v).run P w = .ok () (putBlock w b (.cells (splice cur off v.cells.toList) e (0, 0))) := by
      simp only [storeVar, sizeOf, typeInfo, program, bind, Sem.bind, Sem.run, ht, pure]
      rw [if_neg (by simpa using hsz)]
      exact hr
    simp [execOp, hop, Instr.storeAt, hx', hy', Instr.sureAddr, bind, Sem.bind, pure]
    rw [Sem.run_bind', h2]
    rfl
end
end Go.Sx
