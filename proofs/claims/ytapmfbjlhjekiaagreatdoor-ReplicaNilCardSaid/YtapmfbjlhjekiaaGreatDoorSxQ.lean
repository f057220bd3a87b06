/-
  Sx, part Q: a store into an element of a slice of one's own, or of an array told as a list. Proved once, for any program. Conditions: none beside each theorem's own.
-/
import Derived.Test.YtapmfbjlhjekiaaGreatDoorSxT
import Derived.Laws.CopyRow
namespace Go.Sx
open Go.RowKit
set_option linter.unusedVariables false
set_option linter.unusedSimpArgs false

theorem remNat {x y : Int} (hx : 0 ≤ x) (hy : 0 < y) : ∃ n : Nat, x % y = (n : Int) ∧ (n : Int) < y :=
  ⟨(x % y).toNat, by have := Int.emod_nonneg x (show y ≠ 0 by omega); omega, by have := Int.emod_nonneg x (show y ≠ 0 by omega); have := Int.emod_lt_of_pos x hy; omega⟩

section
variable {α : Type} {f : α → Array Value} {size : Nat} {l : List α}

/-- a part of an element is put -/
theorem splice_field (hf : ∀ x, (f x).size = size) {k o : Nat} (hk : k < l.length) (d x' : α) {vs : List Value} (ho : o + vs.length ≤ size) (hx : splice (f (l.getD k d)) o vs = f x') : splice (arrCells f l) (k * size + o) vs = arrCells f (l.set k x') := by
  have hl1 := arr_size hf l
  have hl2 := arr_size hf (l.set k x')
  rw [List.length_set] at hl2
  have hk2 : k * size + size ≤ l.length * size := by
    calc k * size + size = (k + 1) * size := by rw [Nat.add_mul, Nat.one_mul]
      _ ≤ l.length * size := Nat.mul_le_mul_right _ hk
  apply Array.ext_getElem?
  intro i
  rw [splice_get, hl1]
  by_cases hi : i < l.length * size
  · have hpos : 0 < size := by
      rcases Nat.eq_zero_or_pos size with h | h
      · rw [h] at hi; omega
      · exact h
    have hq : i / size < l.length := Nat.div_lt_of_lt_mul (by rw [Nat.mul_comm]; exact hi)
    have hr : i % size < size := Nat.mod_lt _ hpos
    have hi2 : i / size * size + i % size = i := by rw [Nat.mul_comm]; exact Nat.div_add_mod i size
    have e1 := arr_get (l := l) hf d hq hr
    have e2 := arr_get (l := l.set k x') hf d (k := i / size) (j := i % size) (by rw [List.length_set]; exact hq) hr
    rw [hi2] at e1 e2
    rw [e1, e2]
    by_cases hkk : i / size = k
    · have h3 : k * size + i % size = i := by rw [← hkk]; exact hi2
      have e3 : (l.set k x').getD (i / size) d = x' := by
        rw [hkk, List.getD_eq_getElem?_getD, List.getElem?_set]
        simp [hk]
      rw [e3, ← hx, splice_get, hkk, hf]
      by_cases hc : o ≤ i % size ∧ i % size < o + vs.length ∧ i % size < size
      · rw [if_pos hc, if_pos (by omega)]
        congr 1
        omega
      · rw [if_neg hc, if_neg (by omega)]
    · have hne : ¬ (k * size + o ≤ i ∧ i < k * size + o + vs.length ∧ i < l.length * size) := by
        rintro ⟨h4, h5, -⟩
        exact hkk (Nat.div_eq_of_lt_le (by omega) (by rw [Nat.add_mul, Nat.one_mul]; omega))
      rw [if_neg hne]
      have e3 : (l.set k x').getD (i / size) d = l.getD (i / size) d := by
        rw [List.getD_eq_getElem?_getD, List.getD_eq_getElem?_getD, List.getElem?_set_ne (fun e => hkk e.symm)]
      rw [e3]
  · rw [if_neg (by omega), Array.getElem?_eq_none (by omega), Array.getElem?_eq_none (by omega)]

theorem field_room (hf : ∀ x, (f x).size = size) {k o n : Nat} (hk : k < l.length) (ho : o + n ≤ size) : k * size + o + n ≤ (arrCells f l).size := by
  rw [arr_size hf]
  have : k * size + size ≤ l.length * size := by
    calc k * size + size = (k + 1) * size := by rw [Nat.add_mul, Nat.one_mul]
      _ ≤ l.length * size := Nat.mul_le_mul_right _ hk
  omega
end

section
variable {P : Program} {R0 : Exit → Act → World → Prop} {N : Nat} {K : List KItem} {S : Env} {w w0 : World} {l : List Oper} {M : List Nat} {A : Asked} {rest : PT} {L : List Asn}

/-- A store into a slice of one's own (part j). -/
theorem GoR.storeSl {i : Nat} {o : Oper} {t : TypeId} {x y : Operand} (ho : l[i]? = some o) (hop : o.op = .store t x y) (hw : wantE l.toArray S o = some true) {b off : Nat} {v : Value} {ti : TypeInfo}
    (hx : S.op x = some (.pointer (some ⟨b, off, none⟩))) (hy : S.op y = some v) (ht : P.info? t = some ti) (hs : St w0 L w) (j : Nat) {α : Type} {f : α → Array Value} {size : Nat} (hf : ∀ x, (f x).size = size) {c : Nat} {e : TypeId} {xs xs' : List α} (hj : L[j]? = some (Sl (some ⟨b, 0, none⟩) c e size f xs))
    (hsz : v.cells.size = ti.size) (h1 : v.cells.toList.all oneB = true) (hoff : off + v.cells.size ≤ (arrCells f xs).size) (hlen : xs'.length = xs.length) (hcs : splice (arrCells f xs) off v.cells.toList = arrCells f xs') {L' : List Asn} (hL : L.set j (Sl (some ⟨b, 0, none⟩) c e size f xs') = L')
    (h : ∀ w', St w0 L' w' → okAll w' (opens M A i) ∧ GoR P l M R0 K N A rest (S.setO o.dst undef) w') : GoR P l M R0 K N A (.ef i rest) S w := by
  have hp := hs.pull j hj
  have h0 : w.ownsRow 0 e size (.slice (some ⟨b, 0, none⟩) xs.length c) xs.length (xs.flatMap fun x => (f x).toList) := hp.holds _ (List.mem_cons_self ..)
  rw [arr_size hf] at hoff
  rcases h0.2 with ⟨h2, h3⟩ | ⟨g, cap, cur, hv, hg0, hg, hnc, hcm, hcur, htake⟩
  · cases h2
  · simp only [Value.slice.injEq, Option.some.injEq, Addr.mk.injEq, and_true, true_and] at hv
    obtain ⟨rfl, rfl⟩ := hv
    have hlt : b < w.heap.size := (Array.getElem?_eq_some_iff.1 hg).1
    have hnsz : xs.length * size ≤ cur.size := by rw [hcur]; exact Nat.mul_le_mul_right _ hnc
    have hr := run_storeCells (P := P) v.cells.toList w cur (0, 0) off 0 hg (fun j _ => by omega) (by simp only [Array.length_toList]; omega) h1
    simp only [Nat.add_zero] at hr
    have hcells : ∀ i, i < xs.length * size → cur[i]? = (arrCells f xs)[i]? := fun i hi => by
      have e1 : cur[i]? = cur.toList[i]? := Array.getElem?_toList.symm
      have e2 : (cur.toList.take (xs.length * size))[i]? = cur.toList[i]? := List.getElem?_take_of_lt hi
      have e3 : (arrCells f xs)[i]? = (xs.flatMap fun x => (f x).toList)[i]? := List.getElem?_toArray ..
      rw [e1, ← e2, htake, e3]
    have hnew : (splice cur off v.cells.toList).toList.take (xs'.length * size) = xs'.flatMap fun x => (f x).toList := by
      rw [hlen]
      apply List.ext_getElem?
      intro i
      have hfl := flat_length hf xs'
      rw [hlen] at hfl
      by_cases hi : i < xs.length * size
      · rw [List.getElem?_take_of_lt hi, Array.getElem?_toList]
        have e1 : (xs'.flatMap fun x => (f x).toList)[i]? = (arrCells f xs')[i]? := by rw [arrCells, List.getElem?_toArray]
        rw [e1, ← hcs, splice_get, splice_get, hcells i hi, arr_size hf]
        by_cases hc : off ≤ i ∧ i < off + v.cells.toList.length ∧ i < cur.size
        · rw [if_pos hc, if_pos ⟨hc.1, hc.2.1, hi⟩]
        · rw [if_neg hc, if_neg (fun q => hc ⟨q.1, q.2.1, by omega⟩)]
      · rw [List.getElem?_eq_none (by rw [List.length_take]; omega), List.getElem?_eq_none (by omega)]
    have hst : St w0 (Sl (some ⟨b, 0, none⟩) c e size f xs' :: L.eraseIdx j) (putBlock w b (.cells (splice cur off v.cells.toList) e (0, 0))) := by
      refine St.step hp rfl rfl rfl (by simp [putBlock]) (fun k hk hn => ?_) ?_ (fun k hk => ⟨.inl hk, ?_⟩)
      · simp only [putBlock, Array.getElem?_setIfInBounds]
        rw [if_neg (fun e => hn (by subst e; rfl))]
      · show World.ownsRow _ 0 e size (.slice _ xs'.length c) xs'.length _
        refine ⟨flat_length hf xs', .inr ⟨b, c, splice cur off v.cells.toList, rfl, hg0, by simp [putBlock, hlt], by rw [hlen]; exact hnc, hcm, by rw [splice_size]; exact hcur, hnew⟩⟩
      · have h5 : (some b : Option Nat) = some k := hk
        have h6 := Option.some.inj h5
        subst h6
        simpa [putBlock] using hlt
    obtain ⟨k1, k2⟩ := h _ (hL ▸ hst.perm (perm_set _ hj))
    refine GoR.run ho hw _ _ (fun a hfit => .inr ⟨?_, rfl⟩) k1 k2
    have hx' := hfit.op hx
    have hy' := hfit.op hy
    generalize a.eval = ρ at hx' hy' ⊢
    have h2 : (storeVar t ⟨b, off, none⟩ v).run P w = .ok () (putBlock w b (.cells (splice cur off v.cells.toList) e (0, 0))) := by
      simp only [storeVar, sizeOf, typeInfo, program, bind, Sem.bind, Sem.run, ht, pure]
      rw [if_neg (by simpa using hsz)]
      exact hr
    simp [execOp, hop, Instr.storeAt, hx', hy', Instr.sureAddr, bind, Sem.bind, pure]
    rw [Sem.run_bind', h2]
    rfl

/-- copy into a block's cells, of what reads as a list -/
theorem run_copy_cel {α : Type} {t1 t2 ty e : TypeId} {ti : TypeInfo} {size : Nat} (hu : P.underlying t1 = some (.slice e)) (hi : P.info? e = some ti) (hsz : ti.size = size) (hpos : 0 < size) {f : α → Array Value} (hf : ∀ x, (f x).size = size) (h1 : ∀ x, ∀ u ∈ (f x).toList, u.oneCell' = true)
    {b off dLen dCap : Nat} {cs : Array Value} {T : TypeId} (hs : St w0 (Cel b cs T :: L) w) (d : α) {adx : Option Addr} {cx : Nat} {ys : List α} (hx : RowsAt w adx ys.length size (fun k => f (ys.getD k d))) (hfit : off + min ys.length dLen * size ≤ cs.size) :
    ∃ w', (Builtin.copy_ #[t1, t2] ty #[.slice (some ⟨b, off, none⟩) dLen dCap, .slice adx ys.length cx]).run P w = .ok (goInt (min ys.length dLen : Nat)) w' ∧ St w0 (Cel b (splice cs off ((ys.take (min ys.length dLen)).flatMap fun x => (f x).toList)) T :: L) w' := by
  obtain ⟨fr, hb, hfr⟩ := hs.holds _ (List.mem_cons_self ..)
  have hlenc : ((ys.take (min ys.length dLen)).flatMap fun x => (f x).toList).length = min ys.length dLen * size := by
    rw [flat_length hf, List.length_take]
    congr 1
    omega
  cases adx with
  | none =>
    have hy : ys = [] := by
      cases ys with
      | nil => rfl
      | cons y ys =>
        obtain ⟨b, off, hh, _⟩ := hx (by simp)
        cases hh
    subst hy
    refine ⟨w, ?_, ?_⟩
    · simp [Builtin.copy_, run_underlying hu, Builtin.lenOf, Builtin.firstCells, sizeOf, typeInfo, hi, storeCells]
    · simpa [splice] using hs
  | some a =>
    have hsrc : ∀ j v, ((ys.take (min ys.length dLen)).flatMap fun x => (f x).toList)[j]? = some v → w.cell? (a.add j) = some v := by
      intro j v hj
      have hlen : j < min ys.length dLen * size := by rw [← hlenc]; exact (List.getElem?_eq_some_iff.1 hj).1
      have hy : 0 < ys.length := by
        rcases Nat.eq_zero_or_pos ys.length with hz | hz
        · rw [hz] at hlen; simp at hlen
        · exact hz
      obtain ⟨b', off', hh, hrow⟩ := hx hy
      simp only [Option.some.injEq] at hh
      subst hh
      have hk : j / size < min ys.length dLen := Nat.div_lt_of_lt_mul (by rw [Nat.mul_comm]; exact hlen)
      have hm : j % size < size := Nat.mod_lt _ hpos
      have h2 := hrow (j / size) (by omega) (j % size) hm
      have h3 := flat_get hf d (ys.take (min ys.length dLen)) (j / size) (j % size) (by rw [List.length_take]; omega) hm
      have h4 : j / size * size + j % size = j := by rw [Nat.mul_comm]; exact Nat.div_add_mod j size
      have h5 : (ys.take (min ys.length dLen)).getD (j / size) d = ys.getD (j / size) d := by
        rw [List.getD_eq_getElem?_getD, List.getD_eq_getElem?_getD, List.getElem?_take_of_lt hk]
      rw [Nat.add_assoc, h4] at h2
      rw [h4, h5] at h3
      rw [add_mk, h2, ← h3]
      exact hj
    have hone : (((ys.take (min ys.length dLen)).flatMap fun x => (f x).toList).all oneB) = true := by
      rw [List.all_eq_true]
      intro u hu
      obtain ⟨y, _, hy⟩ := List.mem_flatMap.1 hu
      have := h1 y u hy
      cases u <;> simp_all [oneB, Value.oneCell']
    have hl := run_loadCells_list (P := P) w a _ hsrc
    rw [hlenc] at hl
    have hst := run_storeCells (P := P) ((ys.take (min ys.length dLen)).flatMap fun x => (f x).toList) w cs fr off 0 hb hfr (by rw [hlenc]; simpa using hfit) hone
    simp only [Nat.add_zero] at hst
    refine ⟨_, ?_, St.put hs hb hfr (cs' := splice cs off ((ys.take (min ys.length dLen)).flatMap fun x => (f x).toList)) (splice_size ..)⟩
    have hmin : Nat.min ys.length dLen = min ys.length dLen := rfl
    simp only [Builtin.copy_, run_underlying hu, Builtin.lenOf, Builtin.firstCells, sizeOf, typeInfo, Sem.run_bind, hi, hsz, hmin]
    simp [run_underlying hu, hi, hsz, hl, hst, hmin]

theorem GoR.copy {α : Type} {i : Nat} {o : Oper} (ho : l[i]? = some o) (hw : wantE l.toArray S o = some true) {t e : TypeId} {size bytes : Nat} (he : ElemOK P t e size bytes) {f : α → Array Value} (hf : CellF f size) {b off dLen dCap : Nat} {cs : Array Value} {T : TypeId} {ys : List α} {adx : Option Addr} {cx : Nat} (d : α)
    (hb : bArgs S o = some (.copy, [t, t], [.slice (some ⟨b, off, none⟩) dLen dCap, .slice adx ys.length cx])) (hs : St w0 (Cel b cs T :: L) w) (hx : RowsAt w adx ys.length size (fun k => f (ys.getD k d))) (hfit : off + min ys.length dLen * size ≤ cs.size) {cs' : Array Value} (hcs : splice cs off ((ys.take (min ys.length dLen)).flatMap fun x => (f x).toList) = cs')
    (h : ∀ w', St w0 (Cel b cs' T :: L) w' → okAll w' (opens M A i) ∧ GoR P l M R0 K N A rest (S.setO o.dst (.int .i64 (min ys.length dLen : Nat))) w') : GoR P l M R0 K N A (.ef i rest) S w := by
  subst hcs
  obtain ⟨ti, z, h1, h2, h3, h4, h5⟩ := he.info
  obtain ⟨w', hr, hs'⟩ := run_copy_cel (P := P) (t2 := t) (ty := o.type) (dCap := dCap) (cx := cx) he.und h1 h3 he.pos hf.size hf.ones hs d hx hfit
  obtain ⟨k1, k2⟩ := h w' hs'
  refine GoR.run ho hw _ w' (fun a hfit => .inl ?_) k1 k2
  obtain ⟨cs, hrun⟩ := run_bArgs (P := P) hfit hb w
  rw [hrun]
  simp only [builtin, Sem.run_bind]
  rw [hr]
  rfl
/-- a whole array is copied over -/
theorem copy_all {α : Type} {f : α → Array Value} {size : Nat} (hf : ∀ x, (f x).size = size) {l ys : List α} {n : Nat} (hl : l.length = n) (hy : ys.length = n) : splice (arrCells f l) 0 ((ys.take (min ys.length n)).flatMap fun x => (f x).toList) = arrCells f ys := by
  have h0 : ys.take (min ys.length n) = ys := List.take_of_length_le (by omega)
  rw [h0]
  have e1 := arr_size hf l
  have e2 := arr_size hf ys
  have e3 := flat_length hf ys
  apply Array.ext_getElem?
  intro i
  rw [splice_get, e3, e1, hl, hy]
  by_cases hi : i < n * size
  · rw [if_pos (by omega), Nat.sub_zero, arrCells, List.getElem?_toArray]
  · rw [if_neg (by omega), Array.getElem?_eq_none (by rw [e1, hl]; omega), Array.getElem?_eq_none (by rw [e2, hy]; omega)]
end
end Go.Sx
