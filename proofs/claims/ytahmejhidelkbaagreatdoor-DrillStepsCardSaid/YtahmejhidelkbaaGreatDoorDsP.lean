/-
  Several texts in one.
  Sx, part CC: the rules' short words: what the kernel settles by itself is asked behind all else. Conditions: none beside each theorem's own.
  Sx, part Q: a store into an element of a slice of one's own, or of an array told as a list. Proved once, for any program. Conditions: none beside each theorem's own.
  Sx, part R: values that are whole arrays, told as lists. Proved once, for any program. Conditions: none beside each theorem's own.
  Sx, part U: words of bits, as plain functions. Proved once, for any program. Conditions: none beside each theorem's own.
  Sx, part X: make([]T, n); a row copied over a part of another one; rows that are read alone; max. Proved once, for any program. Conditions: none beside each theorem's own.
  Steps told by five numbers; odd, who, one; Same. Conditions: none beside each theorem's own.
  The kinds of events. Conditions: none beside each theorem's own.
  The cuts of a split. Conditions: none beside each theorem's own.
  drill.Steps, kind by kind. Conditions: none beside each theorem's own.
  The document's single steps and cuts. Conditions: none beside each theorem's own.
-/
import Derived.Test.YtahmejhidelkbaaGreatDoorSxT
import Derived.Laws.CopyRow
import Derived.Laws.MakeOwn
import Derived.Test.YtahmejhidelkbaaGreatDoorProg
/-! SxCC -/
namespace Go.Sx
open Go.RowKit
set_option linter.unusedVariables false
abbrev vp (b o : Nat) : Value := .pointer (some ⟨b, o, none⟩)
abbrev vl (b o n c : Nat) : Value := .slice (some ⟨b, o, none⟩) n c
section
variable {P : Program} {R0 : Exit → Act → World → Prop} {N : Nat} {K : List KItem} {S : Env} {w w0 : World} {l : List Oper} {M : List Nat} {A : Asked} {rest : PT} {L : List Asn}
theorem Zqk (hs : List (Nat × Hint)) {rest' : PT} (A' : Asked) (S' : Env) (h2 : askedOK w A') (h3 : GoR P l M R0 K N (A'.reverse ++ A) rest S' w)
    (hr : rds (hs.map fun x => x.1) rest = rest' := by exact rfl) (h1 : (Go.Sx.phase P l.toArray hs S).map (fun r => (r.1, Env.pick r.2 (S'.map fun x => x.1))) = some (A', S') := by kernel_rfl) : GoR P l M R0 K N A rest' S w :=
  GoR.phaseK hs _ A' S' h1 hr h2 h3
theorem Zqt {id : Nat} (p : PT) (h : GoR P l (List.replicate l.length ((1 <<< l.length) - 1)) R0 K N [] p S w) (hp : p.idxs = List.range l.length := by kernel_rfl) (hN : dstsOK N l.toArray = true := by kernel_rfl) : GoC P R0 N K (.region id l.toArray false) S w :=
  GoC.regT _ p hp hN h
theorem Zqo {i : Nat} (h : opens M A i = [] := by kernel_rfl) : okAll w (opens M A i) := opn h
theorem Zqc {c : Operand} {x y : Code} {t : Bool} (h1 : t = true → GoC P R0 N K x S w) (h2 : t = false → GoC P R0 N K y S w) (hc : S.op c = some (.bool t) := by kernel_rfl) : GoC P R0 N K (.cond c x y) S w := GoC.cond hc h1 h2
theorem ZqT {c : Operand} {x y : Code} (h1 : GoC P R0 N K x S w) (hc : S.op c = some (.bool true) := by kernel_rfl) : GoC P R0 N K (.cond c x y) S w := GoC.condT hc h1
theorem ZqF {c : Operand} {x y : Code} (h1 : GoC P R0 N K y S w) (hc : S.op c = some (.bool false) := by kernel_rfl) : GoC P R0 N K (.cond c x y) S w := GoC.condF hc h1
theorem Zqs (d : Nat) {b : Bool} (t : Bool) (hb : b = t) (h : GoR P l M R0 K N A rest (S.set d (.bool t)) w) (hd : d < N := by decide) (hg : S.get d = some (.bool b) := by kernel_rfl) : GoR P l M R0 K N A rest S w := GoR.setB d t hd hg hb h
theorem Zq1 {fn : Func} {φ : Value → World → Prop} {e : Exit} {t : Tmp} {v : Value} (h : φ v w) (he : e = .ret ∨ e = .normal := by exact .inl rfl) (hr : fn.results = #[.tmp t] := by exact rfl) (hv : S.get t = some v := by kernel_rfl) : GoQ P (bodyPost P fn (Ret φ)) N [] e S w :=
  GoQ.done he (fun a hf => results1 hr hv a hf) h
theorem Zq2 {fn : Func} {φ : Value → World → Prop} {e : Exit} {t u : Tmp} {v v' : Value} (h : φ (.tuple #[v, v']) w) (he : e = .ret ∨ e = .normal := by exact .inl rfl) (hr : fn.results = #[.tmp t, .tmp u] := by exact rfl) (hv : S.get t = some v := by kernel_rfl) (hu : S.get u = some v' := by kernel_rfl) : GoQ P (bodyPost P fn (Ret φ)) N [] e S w :=
  GoQ.done he (fun a hf => results2 hr hv hu a hf) h
theorem Zqa {i : Nat} {o : Oper} {c : Call} {f : FuncId} {args : Array Value}
    (hcall : ∀ args w, (callFunc f args).run P w = .ok (.enter f args) w) {φ : Value → World → Prop} (spec : Calls P f args w (Ret φ))
    (h : ∀ v w', φ v w' → okAll w' (opens M A i) ∧ GoR P l M R0 K N A rest (S.setO o.dst v) w')
    (ho : l[i]? = some o := by exact rfl) (hop : o.op = .call c := by exact rfl) (hw : wantE l.toArray S o = some true := by kernel_rfl) (hc : callArgs S c = some (f, args) := by kernel_rfl) : GoR P l M R0 K N A (.ef i rest) S w :=
  GoR.call ho hop hw hc hcall spec h
end
end Go.Sx

/-! SxQ -/
namespace Go.Sx
open Go.RowKit
set_option linter.unusedVariables false
set_option linter.unusedSimpArgs false

theorem remNat {x y : Int} (hx : 0 ≤ x) (hy : 0 < y) : ∃ n : Nat, x % y = (n : Int) ∧ (n : Int) < y :=
  ⟨(x % y).toNat, by have := Int.emod_nonneg x (show y ≠ 0 by omega); omega, by have := Int.emod_nonneg x (show y ≠ 0 by omega); have := Int.emod_lt_of_pos x hy; omega⟩

section
variable {α : Type} {f : α → Array Value} {size : Nat} {l : List α}

/-- a part of an element is put -/
theorem splice_field (hf : ∀ x, (f x).size = size) {k o : Nat} (hk : k < l.length) (d x' : α) {vs : List Value} (ho : o + vs.length ≤ size) (hx : splice (f (l.getD k d)) o vs = f x') : splice (arrCells f l) (k * size + o) vs = arrCells f (l.set k x') := by
  have hl1 := arr_size hf l
  have hl2 := arr_size hf (l.set k x')
  rw [List.length_set] at hl2
  have hk2 : k * size + size ≤ l.length * size := by
    calc k * size + size = (k + 1) * size := by rw [Nat.add_mul, Nat.one_mul]
      _ ≤ l.length * size := Nat.mul_le_mul_right _ hk
  apply Array.ext_getElem?
  intro i
  rw [splice_get, hl1]
  by_cases hi : i < l.length * size
  · have hpos : 0 < size := by
      rcases Nat.eq_zero_or_pos size with h | h
      · rw [h] at hi; omega
      · exact h
    have hq : i / size < l.length := Nat.div_lt_of_lt_mul (by rw [Nat.mul_comm]; exact hi)
    have hr : i % size < size := Nat.mod_lt _ hpos
    have hi2 : i / size * size + i % size = i := by rw [Nat.mul_comm]; exact Nat.div_add_mod i size
    have e1 := arr_get (l := l) hf d hq hr
    have e2 := arr_get (l := l.set k x') hf d (k := i / size) (j := i % size) (by rw [List.length_set]; exact hq) hr
    rw [hi2] at e1 e2
    rw [e1, e2]
    by_cases hkk : i / size = k
    · have h3 : k * size + i % size = i := by rw [← hkk]; exact hi2
      have e3 : (l.set k x').getD (i / size) d = x' := by
        rw [hkk, List.getD_eq_getElem?_getD, List.getElem?_set]
        simp [hk]
      rw [e3, ← hx, splice_get, hkk, hf]
      by_cases hc : o ≤ i % size ∧ i % size < o + vs.length ∧ i % size < size
      · rw [if_pos hc, if_pos (by omega)]
        congr 1
        omega
      · rw [if_neg hc, if_neg (by omega)]
    · have hne : ¬ (k * size + o ≤ i ∧ i < k * size + o + vs.length ∧ i < l.length * size) := by
        rintro ⟨h4, h5, -⟩
        exact hkk (Nat.div_eq_of_lt_le (by omega) (by rw [Nat.add_mul, Nat.one_mul]; omega))
      rw [if_neg hne]
      have e3 : (l.set k x').getD (i / size) d = l.getD (i / size) d := by
        rw [List.getD_eq_getElem?_getD, List.getD_eq_getElem?_getD, List.getElem?_set_ne (fun e => hkk e.symm)]
      rw [e3]
  · rw [if_neg (by omega), Array.getElem?_eq_none (by omega), Array.getElem?_eq_none (by omega)]

theorem field_room (hf : ∀ x, (f x).size = size) {k o n : Nat} (hk : k < l.length) (ho : o + n ≤ size) : k * size + o + n ≤ (arrCells f l).size := by
  rw [arr_size hf]
  have : k * size + size ≤ l.length * size := by
    calc k * size + size = (k + 1) * size := by rw [Nat.add_mul, Nat.one_mul]
      _ ≤ l.length * size := Nat.mul_le_mul_right _ hk
  omega
end

section
variable {P : Program} {R0 : Exit → Act → World → Prop} {N : Nat} {K : List KItem} {S : Env} {w w0 : World} {l : List Oper} {M : List Nat} {A : Asked} {rest : PT} {L : List Asn}

/-- A store into a slice of one's own (part j). -/
theorem GoR.storeSl {i : Nat} {o : Oper} {t : TypeId} {x y : Operand} (ho : l[i]? = some o) (hop : o.op = .store t x y) (hw : wantE l.toArray S o = some true) {b off : Nat} {v : Value} {ti : TypeInfo}
    (hx : S.op x = some (.pointer (some ⟨b, off, none⟩))) (hy : S.op y = some v) (ht : P.info? t = some ti) (hs : St w0 L w) (j : Nat) {α : Type} {f : α → Array Value} {size : Nat} (hf : ∀ x, (f x).size = size) {c : Nat} {e : TypeId} {xs xs' : List α} (hj : L[j]? = some (Sl (some ⟨b, 0, none⟩) c e size f xs))
    (hsz : v.cells.size = ti.size) (h1 : v.cells.toList.all oneB = true) (hoff : off + v.cells.size ≤ (arrCells f xs).size) (hlen : xs'.length = xs.length) (hcs : splice (arrCells f xs) off v.cells.toList = arrCells f xs') {L' : List Asn} (hL : L.set j (Sl (some ⟨b, 0, none⟩) c e size f xs') = L')
    (h : ∀ w', St w0 L' w' → okAll w' (opens M A i) ∧ GoR P l M R0 K N A rest (S.setO o.dst undef) w') : GoR P l M R0 K N A (.ef i rest) S w := by
  have hp := hs.pull j hj
  have h0 : w.ownsRow 0 e size (.slice (some ⟨b, 0, none⟩) xs.length c) xs.length (xs.flatMap fun x => (f x).toList) := hp.holds _ (List.mem_cons_self ..)
  rw [arr_size hf] at hoff
  rcases h0.2 with ⟨h2, h3⟩ | ⟨g, cap, cur, hv, hg0, hg, hnc, hcm, hcur, htake⟩
  · cases h2
  · simp only [Value.slice.injEq, Option.some.injEq, Addr.mk.injEq, and_true, true_and] at hv
    obtain ⟨rfl, rfl⟩ := hv
    have hlt : b < w.heap.size := (Array.getElem?_eq_some_iff.1 hg).1
    have hnsz : xs.length * size ≤ cur.size := by rw [hcur]; exact Nat.mul_le_mul_right _ hnc
    have hr := run_storeCells (P := P) v.cells.toList w cur (0, 0) off 0 hg (fun j _ => by omega) (by simp only [Array.length_toList]; omega) h1
    simp only [Nat.add_zero] at hr
    have hcells : ∀ i, i < xs.length * size → cur[i]? = (arrCells f xs)[i]? := fun i hi => by
      have e1 : cur[i]? = cur.toList[i]? := Array.getElem?_toList.symm
      have e2 : (cur.toList.take (xs.length * size))[i]? = cur.toList[i]? := List.getElem?_take_of_lt hi
      have e3 : (arrCells f xs)[i]? = (xs.flatMap fun x => (f x).toList)[i]? := List.getElem?_toArray ..
      rw [e1, ← e2, htake, e3]
    have hnew : (splice cur off v.cells.toList).toList.take (xs'.length * size) = xs'.flatMap fun x => (f x).toList := by
      rw [hlen]
      apply List.ext_getElem?
      intro i
      have hfl := flat_length hf xs'
      rw [hlen] at hfl
      by_cases hi : i < xs.length * size
      · rw [List.getElem?_take_of_lt hi, Array.getElem?_toList]
        have e1 : (xs'.flatMap fun x => (f x).toList)[i]? = (arrCells f xs')[i]? := by rw [arrCells, List.getElem?_toArray]
        rw [e1, ← hcs, splice_get, splice_get, hcells i hi, arr_size hf]
        by_cases hc : off ≤ i ∧ i < off + v.cells.toList.length ∧ i < cur.size
        · rw [if_pos hc, if_pos ⟨hc.1, hc.2.1, hi⟩]
        · rw [if_neg hc, if_neg (fun q => hc ⟨q.1, q.2.1, by omega⟩)]
      · rw [List.getElem?_eq_none (by rw [List.length_take]; omega), List.getElem?_eq_none (by omega)]
    have hst : St w0 (Sl (some ⟨b, 0, none⟩) c e size f xs' :: L.eraseIdx j) (putBlock w b (.cells (splice cur off v.cells.toList) e (0, 0))) := by
      refine St.step hp rfl rfl rfl (by simp [putBlock]) (fun k hk hn => ?_) ?_ (fun k hk => ⟨.inl hk, ?_⟩)
      · simp only [putBlock, Array.getElem?_setIfInBounds]
        rw [if_neg (fun e => hn (by subst e; rfl))]
      · show World.ownsRow _ 0 e size (.slice _ xs'.length c) xs'.length _
        refine ⟨flat_length hf xs', .inr ⟨b, c, splice cur off v.cells.toList, rfl, hg0, by simp [putBlock, hlt], by rw [hlen]; exact hnc, hcm, by rw [splice_size]; exact hcur, hnew⟩⟩
      · have h5 : (some b : Option Nat) = some k := hk
        have h6 := Option.some.inj h5
        subst h6
        simpa [putBlock] using hlt
    obtain ⟨k1, k2⟩ := h _ (hL ▸ hst.perm (perm_set _ hj))
    refine GoR.run ho hw _ _ (fun a hfit => .inr ⟨?_, rfl⟩) k1 k2
    have hx' := hfit.op hx
    have hy' := hfit.op hy
    generalize a.eval = ρ at hx' hy' ⊢
    have h2 : (storeVar t ⟨b, off, none⟩ v).run P w = .ok () (putBlock w b (.cells (splice cur off v.cells.toList) e (0, 0))) := by
      simp only [storeVar, sizeOf, typeInfo, program, bind, Sem.bind, Sem.run, ht, pure]
      rw [if_neg (by simpa using hsz)]
      exact hr
    simp [execOp, hop, Instr.storeAt, hx', hy', Instr.sureAddr, bind, Sem.bind, pure]
    rw [Sem.run_bind', h2]
    rfl

/-- copy into a block's cells, of what reads as a list -/
theorem run_copy_cel {α : Type} {t1 t2 ty e : TypeId} {ti : TypeInfo} {size : Nat} (hu : P.underlying t1 = some (.slice e)) (hi : P.info? e = some ti) (hsz : ti.size = size) (hpos : 0 < size) {f : α → Array Value} (hf : ∀ x, (f x).size = size) (h1 : ∀ x, ∀ u ∈ (f x).toList, u.oneCell' = true)
    {b off dLen dCap : Nat} {cs : Array Value} {T : TypeId} (hs : St w0 (Cel b cs T :: L) w) (d : α) {adx : Option Addr} {cx : Nat} {ys : List α} (hx : RowsAt w adx ys.length size (fun k => f (ys.getD k d))) (hfit : off + min ys.length dLen * size ≤ cs.size) :
    ∃ w', (Builtin.copy_ #[t1, t2] ty #[.slice (some ⟨b, off, none⟩) dLen dCap, .slice adx ys.length cx]).run P w = .ok (goInt (min ys.length dLen : Nat)) w' ∧ St w0 (Cel b (splice cs off ((ys.take (min ys.length dLen)).flatMap fun x => (f x).toList)) T :: L) w' := by
  obtain ⟨fr, hb, hfr⟩ := hs.holds _ (List.mem_cons_self ..)
  have hlenc : ((ys.take (min ys.length dLen)).flatMap fun x => (f x).toList).length = min ys.length dLen * size := by
    rw [flat_length hf, List.length_take]
    congr 1
    omega
  cases adx with
  | none =>
    have hy : ys = [] := by
      cases ys with
      | nil => rfl
      | cons y ys =>
        obtain ⟨b, off, hh, _⟩ := hx (by simp)
        cases hh
    subst hy
    refine ⟨w, ?_, ?_⟩
    · simp [Builtin.copy_, run_underlying hu, Builtin.lenOf, Builtin.firstCells, sizeOf, typeInfo, hi, storeCells]
    · simpa [splice] using hs
  | some a =>
    have hsrc : ∀ j v, ((ys.take (min ys.length dLen)).flatMap fun x => (f x).toList)[j]? = some v → w.cell? (a.add j) = some v := by
      intro j v hj
      have hlen : j < min ys.length dLen * size := by rw [← hlenc]; exact (List.getElem?_eq_some_iff.1 hj).1
      have hy : 0 < ys.length := by
        rcases Nat.eq_zero_or_pos ys.length with hz | hz
        · rw [hz] at hlen; simp at hlen
        · exact hz
      obtain ⟨b', off', hh, hrow⟩ := hx hy
      simp only [Option.some.injEq] at hh
      subst hh
      have hk : j / size < min ys.length dLen := Nat.div_lt_of_lt_mul (by rw [Nat.mul_comm]; exact hlen)
      have hm : j % size < size := Nat.mod_lt _ hpos
      have h2 := hrow (j / size) (by omega) (j % size) hm
      have h3 := flat_get hf d (ys.take (min ys.length dLen)) (j / size) (j % size) (by rw [List.length_take]; omega) hm
      have h4 : j / size * size + j % size = j := by rw [Nat.mul_comm]; exact Nat.div_add_mod j size
      have h5 : (ys.take (min ys.length dLen)).getD (j / size) d = ys.getD (j / size) d := by
        rw [List.getD_eq_getElem?_getD, List.getD_eq_getElem?_getD, List.getElem?_take_of_lt hk]
      rw [Nat.add_assoc, h4] at h2
      rw [h4, h5] at h3
      rw [add_mk, h2, ← h3]
      exact hj
    have hone : (((ys.take (min ys.length dLen)).flatMap fun x => (f x).toList).all oneB) = true := by
      rw [List.all_eq_true]
      intro u hu
      obtain ⟨y, _, hy⟩ := List.mem_flatMap.1 hu
      have := h1 y u hy
      cases u <;> simp_all [oneB, Value.oneCell']
    have hl := run_loadCells_list (P := P) w a _ hsrc
    rw [hlenc] at hl
    have hst := run_storeCells (P := P) ((ys.take (min ys.length dLen)).flatMap fun x => (f x).toList) w cs fr off 0 hb hfr (by rw [hlenc]; simpa using hfit) hone
    simp only [Nat.add_zero] at hst
    refine ⟨_, ?_, St.put hs hb hfr (cs' := splice cs off ((ys.take (min ys.length dLen)).flatMap fun x => (f x).toList)) (splice_size ..)⟩
    have hmin : Nat.min ys.length dLen = min ys.length dLen := rfl
    simp only [Builtin.copy_, run_underlying hu, Builtin.lenOf, Builtin.firstCells, sizeOf, typeInfo, Sem.run_bind, hi, hsz, hmin]
    simp [run_underlying hu, hi, hsz, hl, hst, hmin]

theorem GoR.copy {α : Type} {i : Nat} {o : Oper} (ho : l[i]? = some o) (hw : wantE l.toArray S o = some true) {t e : TypeId} {size bytes : Nat} (he : ElemOK P t e size bytes) {f : α → Array Value} (hf : CellF f size) {b off dLen dCap : Nat} {cs : Array Value} {T : TypeId} {ys : List α} {adx : Option Addr} {cx : Nat} (d : α)
    (hb : bArgs S o = some (.copy, [t, t], [.slice (some ⟨b, off, none⟩) dLen dCap, .slice adx ys.length cx])) (hs : St w0 (Cel b cs T :: L) w) (hx : RowsAt w adx ys.length size (fun k => f (ys.getD k d))) (hfit : off + min ys.length dLen * size ≤ cs.size) {cs' : Array Value} (hcs : splice cs off ((ys.take (min ys.length dLen)).flatMap fun x => (f x).toList) = cs')
    (h : ∀ w', St w0 (Cel b cs' T :: L) w' → okAll w' (opens M A i) ∧ GoR P l M R0 K N A rest (S.setO o.dst (.int .i64 (min ys.length dLen : Nat))) w') : GoR P l M R0 K N A (.ef i rest) S w := by
  subst hcs
  obtain ⟨ti, z, h1, h2, h3, h4, h5⟩ := he.info
  obtain ⟨w', hr, hs'⟩ := run_copy_cel (P := P) (t2 := t) (ty := o.type) (dCap := dCap) (cx := cx) he.und h1 h3 he.pos hf.size hf.ones hs d hx hfit
  obtain ⟨k1, k2⟩ := h w' hs'
  refine GoR.run ho hw _ w' (fun a hfit => .inl ?_) k1 k2
  obtain ⟨cs, hrun⟩ := run_bArgs (P := P) hfit hb w
  rw [hrun]
  simp only [builtin, Sem.run_bind]
  rw [hr]
  rfl
/-- a whole array is copied over -/
theorem copy_all {α : Type} {f : α → Array Value} {size : Nat} (hf : ∀ x, (f x).size = size) {l ys : List α} {n : Nat} (hl : l.length = n) (hy : ys.length = n) : splice (arrCells f l) 0 ((ys.take (min ys.length n)).flatMap fun x => (f x).toList) = arrCells f ys := by
  have h0 : ys.take (min ys.length n) = ys := List.take_of_length_le (by omega)
  rw [h0]
  have e1 := arr_size hf l
  have e2 := arr_size hf ys
  have e3 := flat_length hf ys
  apply Array.ext_getElem?
  intro i
  rw [splice_get, e3, e1, hl, hy]
  by_cases hi : i < n * size
  · rw [if_pos (by omega), Nat.sub_zero, arrCells, List.getElem?_toArray]
  · rw [if_neg (by omega), Array.getElem?_eq_none (by rw [e1, hl]; omega), Array.getElem?_eq_none (by rw [e2, hy]; omega)]
end
end Go.Sx

/-! SxR -/
namespace Go.Sx
open Go.RowKit
set_option linter.unusedVariables false
set_option linter.unusedSimpArgs false

section
variable {α : Type} {f : α → Array Value} {size n m : Nat} {l : List α}
theorem arrvSize (hf : CellF f size) (h : l.length = n) (hm : (n * size).beq m = true) : Array.size (arrCells f l) = m := by
  rw [arr_size hf.size, h]; exact Nat.eq_of_beq_eq_true hm
theorem arrvCells (hf : CellF f size) (h : l.length = n) (hm : (n * size).beq m = true) : (Value.cells (.agg (arrCells f l))).size = m := arrvSize hf h hm
theorem arrvOne (hf : CellF f size) : (Value.cells (.agg (arrCells f l))).toList.all oneB = true := by
  show (arrCells f l).toList.all _ = true
  rw [List.all_eq_true]
  intro u hu
  simp only [arrCells] at hu
  obtain ⟨x, _, hx⟩ := List.mem_flatMap.1 hu
  have h1 := hf.ones x u hx
  cases u <;> simp_all [oneB, Value.oneCell']
theorem arrvRoom (hf : CellF f size) (h : l.length = n) {cs : Array Value} (hm : (n * size).beq cs.size = true) : 0 + (Value.cells (.agg (arrCells f l))).size ≤ cs.size := by
  rw [Nat.zero_add, arrvCells hf h hm]; exact Nat.le_refl _
theorem arrvPut (hf : CellF f size) (h : l.length = n) {cs : Array Value} (hm : (n * size).beq cs.size = true) : splice cs 0 (Value.cells (.agg (arrCells f l))).toList = arrCells f l := by
  have hs : (arrCells f l).size = cs.size := arrvSize hf h hm
  apply Array.ext_getElem?
  intro i
  have he : (Value.cells (.agg (arrCells f l))).toList = (arrCells f l).toList := rfl
  rw [he, splice_get]
  have hl : (arrCells f l).toList.length = cs.size := by rw [Array.length_toList, hs]
  by_cases hi : i < cs.size
  · rw [if_pos ⟨Nat.zero_le _, by omega, hi⟩, Nat.sub_zero, Array.getElem?_toList]
  · rw [if_neg (by omega), Array.getElem?_eq_none (by omega), Array.getElem?_eq_none (by omega)]
end
end Go.Sx

/-! SxU -/
namespace Go.Sx
open Go.RowKit
set_option linter.unusedVariables false
set_option linter.unusedSimpArgs false

def iAnd (k : IntKind) (x y : Int) : Int := k.wrap ((BitVec.ofInt k.bits x &&& BitVec.ofInt k.bits y).toNat : Int)
def iOr (k : IntKind) (x y : Int) : Int := k.wrap ((BitVec.ofInt k.bits x ||| BitVec.ofInt k.bits y).toNat : Int)
def iXor (k : IntKind) (x y : Int) : Int := k.wrap ((BitVec.ofInt k.bits x ^^^ BitVec.ofInt k.bits y).toNat : Int)
def iAndNot (k : IntKind) (x y : Int) : Int := k.wrap ((BitVec.ofInt k.bits x &&& ~~~ BitVec.ofInt k.bits y).toNat : Int)
def iNot (k : IntKind) (x : Int) : Int := iXor k (if k.signed then -1 else k.max) x
def iShl (k : IntKind) (x y : Int) : Int := k.wrap (x * 2 ^ (min y.toNat k.bits))
def iShr (k : IntKind) (x y : Int) : Int := x.fdiv (2 ^ (min y.toNat k.bits))
theorem u32wrap_b (x : Int) : 0 ≤ IntKind.u32.wrap x ∧ IntKind.u32.wrap x < 4294967296 := by
  have : IntKind.u32.wrap x = x % 4294967296 := by
    simp [IntKind.wrap, IntKind.bits, IntKind.signed]
  rw [this]; omega
theorem u8wrap_b (x : Int) : 0 ≤ IntKind.u8.wrap x ∧ IntKind.u8.wrap x < 256 := by
  have : IntKind.u8.wrap x = x % 256 := by
    simp [IntKind.wrap, IntKind.bits, IntKind.signed]
  rw [this]; omega
theorem uwrap_nn {k : IntKind} (h : k.signed = false) (x : Int) : 0 ≤ k.wrap x := by
  cases k <;> first | (exact absurd h (by decide)) | (simp [IntKind.wrap, IntKind.bits, IntKind.signed]; omega)
/-! Parts of an array: a slice of it from some place on. -/
theorem subArrL {b off n lo s h m : Nat} (h1 : lo < n) (h2 : h - lo = m) : Value.slice (some (if n = lo then Addr.mk b off none else (Addr.mk b off none).add (lo * s))) (h - lo) (n - lo) = .slice (some ⟨b, off + lo * s, none⟩) m (n - lo) := by
  rw [if_neg (by omega), add_mk, h2]
theorem ptrAddM (b e n s : Nat) : Value.pointer (some ((Addr.mk b (0 + e * s) none).add (n * s))) = .pointer (some ⟨b, 0 + (e + n) * s, none⟩) := by
  rw [add_mk, Nat.add_assoc, ← Nat.add_mul]
/-- An element of an array that is a value, told as a list. -/
theorem elemArr {α : Type} {f : α → Array Value} (hf : CellF f 1) {l : List α} {d : α} {n : Int} {k : Nat} (hn : n.toNat = k) (hk : k < l.length) {v : Value} (hv : (f (l.getD k d))[0]? = some v) : (arrCells f l)[n.toNat * 1]? = some v := by
  subst hn
  have := arr_get hf.size d hk (j := 0) (by omega)
  rw [Nat.add_zero] at this
  rw [this, hv]
end Go.Sx

/-! SxX -/
namespace Go.Sx
open Go.RowKit
set_option linter.unusedVariables false
set_option linter.unusedSimpArgs false

theorem maxok {k : IntKind} {x y : Int} : Value.int k (if y > x then y else x) = Value.int k (max x y) := by
  congr 1
  by_cases h : y > x
  · rw [if_pos h]; omega
  · rw [if_neg h]; omega

theorem maxnat {k : IntKind} {x : Int} : Value.int k (if 0 > x then 0 else x) = Value.int k ((x.toNat : Nat) : Int) := by
  congr 1
  by_cases h : 0 > x
  · rw [if_pos h]; omega
  · rw [if_neg h]; omega

theorem splice_mid : ∀ (vs pre mid post : List Value), mid.length = vs.length → splice (pre ++ mid ++ post).toArray pre.length vs = (pre ++ vs ++ post).toArray
  | [], pre, mid, post, h => by
    have : mid = [] := List.length_eq_zero_iff.1 h
    subst this
    rfl
  | v :: vs, pre, m :: mid, post, h => by
    have h1 : mid.length = vs.length := by simpa using h
    have e : ((pre ++ m :: mid ++ post).toArray.setIfInBounds pre.length v) = ((pre ++ [v]) ++ mid ++ post).toArray := by
      apply Array.ext'
      simp [List.set_append]
    have ih := splice_mid vs (pre ++ [v]) mid post h1
    rw [List.length_append] at ih
    show splice ((pre ++ m :: mid ++ post).toArray.setIfInBounds pre.length v) (pre.length + 1) vs = _
    rw [e]
    rw [show pre.length + 1 = pre.length + [v].length from rfl, ih]
    congr 1
    simp
  | _ :: _, _, [], _, h => by simp at h

/-- A row laid over another one from some place on. -/
def layL {α : Type} (l : List α) (a : Nat) (ys : List α) : List α := l.take a ++ ys ++ l.drop (a + ys.length)
theorem layL_length {α : Type} {l ys : List α} {a : Nat} (h : a + ys.length ≤ l.length) : (layL l a ys).length = l.length := by
  simp only [layL, List.length_append, List.length_take, List.length_drop]; omega
theorem put_rows {α : Type} {f : α → Array Value} {size : Nat} (hf : ∀ x, (f x).size = size) {l ys : List α} {a : Nat} (h : a + ys.length ≤ l.length) : splice (arrCells f l) (a * size) (ys.flatMap fun x => (f x).toList) = arrCells f (layL l a ys) := by
  have e1 : l = l.take a ++ (l.drop a).take ys.length ++ l.drop (a + ys.length) := by
    rw [List.append_assoc, ← List.drop_drop, List.take_append_drop, List.take_append_drop]
  have := splice_mid (ys.flatMap fun x => (f x).toList) ((l.take a).flatMap fun x => (f x).toList) (((l.drop a).take ys.length).flatMap fun x => (f x).toList) ((l.drop (a + ys.length)).flatMap fun x => (f x).toList)
    (by rw [flat_length hf, flat_length hf, List.length_take, List.length_drop]; congr 1; omega)
  rw [show ((l.take a).flatMap fun x => (f x).toList).length = a * size by rw [flat_length hf, List.length_take]; congr 1; omega] at this
  rw [← List.flatMap_append, ← List.flatMap_append, ← e1, ← List.flatMap_append, ← List.flatMap_append] at this
  exact this
/-- one row, doubled as far as there is room -/
theorem lay_rep {α : Type} (x z : α) {m u : Nat} (hm : m ≤ u) : layL (List.replicate m x ++ List.replicate (u - m) z) m (List.replicate (min m (u - m)) x) = List.replicate (m + min m (u - m)) x ++ List.replicate (u - (m + min m (u - m))) z := by
  unfold layL
  rw [List.take_left' (List.length_replicate ..), List.length_replicate, List.replicate_append_replicate]
  congr 1
  rw [List.drop_append, List.drop_eq_nil_of_le (by rw [List.length_replicate]; omega), List.nil_append, List.length_replicate, List.drop_replicate]
  congr 1
  omega

theorem made_rows {α : Type} {f : α → Array Value} {size : Nat} (hf : ∀ x, (f x).size = size) (d : α) (n : Nat) (hp : 0 < size) : madeCells (f d) (n * size) = arrCells f (List.replicate n d) := by
  apply Array.ext_getElem?
  intro i
  by_cases hi : i < n * size
  · have h1 : i / size < n := Nat.div_lt_of_lt_mul (by rw [Nat.mul_comm]; exact hi)
    have h2 : i % size < size := Nat.mod_lt _ hp
    have h3 := arr_get (f := f) (l := List.replicate n d) hf d (k := i / size) (j := i % size) (by rw [List.length_replicate]; exact h1) h2
    rw [show i / size * size + i % size = i by rw [Nat.mul_comm]; exact Nat.div_add_mod i size] at h3
    rw [h3]
    have h4 : (List.replicate n d).getD (i / size) d = d := by
      rw [List.getD_eq_getElem?_getD, List.getElem?_replicate]; split <;> rfl
    rw [h4]
    unfold madeCells
    rw [hf d, Array.getElem?_map, Array.getElem?_range, if_pos hi]
    simp only [Option.map_some]
    rw [getElem!_pos (f d) (i % size) (by rw [hf d]; exact h2), getElem?_pos (f d) (i % size) (by rw [hf d]; exact h2)]
  · rw [Array.getElem?_eq_none (by rw [size_madeCells]; omega), Array.getElem?_eq_none (by rw [arr_size hf, List.length_replicate]; omega)]

section
variable {P : Program} {R0 : Exit → Act → World → Prop} {N : Nat} {K : List KItem} {S : Env} {w w0 : World} {l : List Oper} {M : List Nat} {A : Asked} {rest : PT} {L : List Asn}
def mkArgs (S : Env) (o : Oper) : Option (TypeId × Value × Value) :=
  match o.op with
  | .makeSlice t x y => match S.op x, S.op y with
    | some a, some b => some (t, a, b)
    | _, _ => none
  | _ => none
/-- a copy of a row of which the length is told in other words -/
theorem GoR.copyN {α : Type} {i : Nat} {o : Oper} (ho : l[i]? = some o) (hw : wantE l.toArray S o = some true) {t e : TypeId} {size bytes : Nat} (he : ElemOK P t e size bytes) {f : α → Array Value} (hf : CellF f size) {b off dLen dCap n : Nat} {cs : Array Value} {T : TypeId} {ys : List α} {adx : Option Addr} {cx : Nat} (d : α) (hn : n = ys.length)
    (hb : bArgs S o = some (.copy, [t, t], [.slice (some ⟨b, off, none⟩) dLen dCap, .slice adx n cx])) (hs : St w0 (Cel b cs T :: L) w) (hx : RowsAt w adx ys.length size (fun k => f (ys.getD k d))) (hfit : off + min ys.length dLen * size ≤ cs.size) {cs' : Array Value} (hcs : splice cs off ((ys.take (min ys.length dLen)).flatMap fun x => (f x).toList) = cs')
    (h : ∀ w', St w0 (Cel b cs' T :: L) w' → okAll w' (opens M A i) ∧ GoR P l M R0 K N A rest (S.setO o.dst (.int .i64 (min ys.length dLen : Nat))) w') : GoR P l M R0 K N A (.ef i rest) S w := by
  subst hn
  exact GoR.copy ho hw he hf d hb hs hx hfit hcs h
theorem GoR.makeSlice {α : Type} {i : Nat} {o : Oper} (ho : l[i]? = some o) (hw : wantE l.toArray S o = some true) {t e : TypeId} {n : Nat} (ha : mkArgs S o = some (t, .int .i64 (n : Int), .int .i64 (n : Int))) (he : P.underlying t = some (.slice e)) {ti : TypeInfo} (hi : P.info? e = some ti) {z : Value} (hz : ti.zero = some z) {f : α → Array Value} (d : α) (hzc : z.cells = f d) {size : Nat} (hsz : ti.size = size) (hf : CellF f size) (hp : 0 < size) (hn : n ≤ 100000) (hby : ti.bytes ≤ 100000) (hs : St w0 L w)
    (h : ∀ b w', St w0 (Cel b (arrCells f (List.replicate n d)) e :: L) w' → okAll w' (opens M A i) ∧ GoR P l M R0 K N A rest (S.setO o.dst (.slice (some ⟨b, 0, none⟩) n n)) w') : GoR P l M R0 K N A (.ef i rest) S w := by
  have hbn : ti.bytes * n ≤ 281474976710656 := by
    have := Nat.mul_le_mul hby hn
    omega
  have hr := run_make (P := P) w t e ti z he hi hz .i64 .i64 (n : Int) (n : Int) (by omega) (Int.le_refl _) (by rw [← Int.natCast_mul]; omega) (by omega)
  rw [Int.toNat_natCast, hzc, hsz, made_rows hf.size d n hp] at hr
  obtain ⟨k1, k2⟩ := h _ _ (hs.newCells (arrCells f (List.replicate n d)) e)
  refine GoR.run ho hw _ _ (fun a hfit => .inl ?_) k1 k2
  unfold mkArgs at ha
  split at ha
  · rename_i t' x y hop
    split at ha
    · rename_i a1 b1 h1 h2
      simp only [Option.some.injEq, Prod.mk.injEq] at ha
      obtain ⟨rfl, rfl, rfl⟩ := ha
      have e1 := hfit.op h1
      have e2 := hfit.op h2
      generalize a.eval = ρ at e1 e2 ⊢
      simp only [execOp, hop, e1, e2, Sem.run_bind, hr, Result.andThen_ok]
      rfl
    · cases ha
  · cases ha
end

/-- A row that is read alone. -/
def Rd {α : Type} (ad : Option Addr) (size : Nat) (f : α → Array Value) (d : α) (l : List α) : Asn :=
  ⟨fun b => ∃ off, ad = some ⟨b, off, none⟩, fun w => RowsAt w ad l.length size (fun k => f (l.getD k d)), fun w w' h h1 hn => by
    obtain ⟨b, off, e, h2⟩ := h1 hn
    refine ⟨b, off, e, fun k hk j hj => ?_⟩
    rw [← h2 k hk j hj]
    simp only [World.cell?, h b ⟨off, e⟩]⟩
theorem St.weak {w0 w : World} {L : List Asn} {A B : Asn} (h : St w0 (A :: L) w) (hh : A.holds w → B.holds w) (ho : ∀ b, B.own b → A.own b) : St w0 (B :: L) w := by
  obtain ⟨h1, h2, h3, h4, h5, h6⟩ := h
  rw [List.pairwise_cons] at h6
  refine ⟨h1, h2, h3, fun C hC => ?_, fun C hC b hb => ?_, List.pairwise_cons.2 ⟨fun C hC b hb => h6.1 C hC b (ho b hb), h6.2⟩⟩
  · rcases List.mem_cons.1 hC with rfl | hC
    · exact hh (h4 _ (List.mem_cons_self ..))
    · exact h4 _ (List.mem_cons_of_mem _ hC)
  · rcases List.mem_cons.1 hC with rfl | hC
    · exact h5 _ (List.mem_cons_self ..) b (ho b hb)
    · exact h5 _ (List.mem_cons_of_mem _ hC) b hb
theorem St.rdSl {α : Type} {w0 w : World} {L : List Asn} {ad : Option Addr} {c size : Nat} {e : TypeId} {f : α → Array Value} (hf : CellF f size) (d : α) {l : List α} (h : St w0 (Sl ad c e size f l :: L) w) : St w0 (Rd ad size f d l :: L) w :=
  h.weak (fun _ => h.rows 0 rfl hf.size d) fun b ⟨off, hb⟩ => by subst hb; rfl
theorem St.rdArr {α : Type} {w0 w : World} {L : List Asn} {b size : Nat} {e : TypeId} {f : α → Array Value} (hf : CellF f size) (d : α) {l : List α} (h : St w0 (Cel b (arrCells f l) e :: L) w) : St w0 (Rd (some ⟨b, 0, none⟩) size f d l :: L) w :=
  h.weak (fun _ => arr_rows h 0 rfl hf.size d) fun k ⟨off, hb⟩ => by
    have := Option.some.inj hb
    show k = b
    injection this with h1
    exact h1.symm
theorem St.rdNil {α : Type} {w0 w : World} {L : List Asn} {size : Nat} {f : α → Array Value} (d : α) (h : St w0 L w) : St w0 (Rd none size f d ([] : List α) :: L) w :=
  St.weak (A := Sl none 0 0 size f ([] : List α)) (h.slNil 0 size f) (fun _ hn => absurd hn (by simp)) fun b ⟨off, hb⟩ => by cases hb
theorem rd_rows {α : Type} {w0 w : World} {L : List Asn} {ad : Option Addr} {size : Nat} {f : α → Array Value} {d : α} {l : List α} (h : St w0 L w) (j : Nat) (hj : L[j]? = some (Rd ad size f d l)) : RowsAt w ad l.length size (fun k => f (l.getD k d)) :=
  h.holds _ (List.mem_of_getElem? hj)
end Go.Sx

/-! DsA -/
namespace Go.Proofs.YtahmejhidelkbaaGreatDoor
open Go.RowKit Go.Sx
set_option linter.unusedVariables false
set_option linter.unusedSimpArgs false
set_option linter.unnecessarySimpa false
set_option maxRecDepth 100000
def zq0 : Array Value := #[.int .i64 0, .int .u64 0, .int .u64 0, .int .u64 0, .int .u64 0, .int .u64 0, .int .u64 0, .int .u64 0, .int .u64 0, .int .u64 0, .int .u64 0, .int .u64 0, .int .u64 0, .int .u8 0, .int .u64 0, .int .u64 0, .int .i64 0, .int .u64 0, .int .u8 0, .string (⟨#[]⟩ : ByteArray), .string (⟨#[]⟩ : ByteArray), .string (⟨#[]⟩ : ByteArray), .string (⟨#[]⟩ : ByteArray), .int .u64 0, .int .u8 0, .int .u8 0, .int .u8 0, .int .u8 0, .int .u8 0, .int .u8 0, .int .u8 0, .int .u8 0, .int .u8 0, .int .u8 0, .int .u8 0, .int .u8 0, .int .u8 0, .int .u8 0, .int .u8 0, .int .u8 0, .int .u8 0, .int .u8 0, .int .u8 0, .int .u8 0, .int .u8 0, .int .u8 0, .int .u8 0, .int .u8 0, .int .u8 0, .int .u8 0, .int .u8 0, .int .u8 0, .int .u8 0, .int .u8 0, .int .u8 0, .int .u8 0, .slice none 0 0, .int .u8 0, .int .u8 0, .int .u8 0, .int .u8 0, .int .u8 0, .int .u8 0, .int .u8 0, .int .u8 0, .int .u8 0, .int .u8 0, .int .u8 0, .int .u8 0, .int .u8 0, .int .u8 0, .int .u8 0, .int .u8 0, .int .u8 0, .int .u8 0, .int .u8 0, .int .u8 0, .int .u8 0, .int .u8 0, .int .u8 0, .int .u8 0, .int .u8 0, .int .u8 0, .int .u8 0, .int .u8 0, .int .u8 0, .int .u8 0, .int .u8 0, .int .u8 0, .int .u8 0, .int .u8 0, .int .u8 0, .int .u8 0, .int .u8 0, .int .u8 0, .int .u8 0, .int .u8 0, .int .u8 0, .int .u8 0, .int .u8 0, .int .u8 0, .int .u8 0, .int .u8 0, .int .u8 0, .int .u8 0, .int .u8 0, .int .u8 0, .int .u8 0, .int .u8 0, .int .u8 0, .int .u8 0, .int .u8 0, .int .u8 0, .int .u8 0, .int .u8 0, .int .u8 0, .int .u8 0, .int .u8 0, .int .u8 0, .int .u8 0, .int .u8 0]
def zq1 : Array Value := #[.int .u8 0, .int .i64 0, .int .i64 0, .int .i64 0, .int .i64 0, .int .i64 0, .int .u8 0, .string (⟨#[]⟩ : ByteArray), .string (⟨#[]⟩ : ByteArray), .string (⟨#[]⟩ : ByteArray), .string (⟨#[]⟩ : ByteArray), .int .u64 0, .int .u8 0, .int .u64 0, .int .u64 0, .int .i64 0, .int .u64 0, .int .u8 0, .string (⟨#[]⟩ : ByteArray), .string (⟨#[]⟩ : ByteArray), .string (⟨#[]⟩ : ByteArray), .string (⟨#[]⟩ : ByteArray), .int .u64 0, .int .u8 0, .int .u8 0, .int .u8 0, .int .u8 0, .int .u8 0, .int .u8 0, .int .u8 0, .int .u8 0, .int .u8 0, .int .u8 0, .int .u8 0, .int .u8 0, .int .u8 0, .int .u8 0, .int .u8 0, .int .u8 0, .int .u8 0, .int .u8 0, .int .u8 0, .int .u8 0, .int .u8 0, .int .u8 0, .int .u8 0, .int .u8 0, .int .u8 0, .int .u8 0, .int .u8 0, .int .u8 0, .int .u8 0, .int .u8 0, .int .u8 0, .int .u8 0, .slice none 0 0, .int .u8 0, .int .u8 0, .int .u8 0, .int .u8 0, .int .u8 0, .int .u8 0, .int .u8 0, .int .u8 0, .int .u8 0, .int .u8 0, .int .u8 0, .int .u8 0, .int .u8 0, .int .u8 0, .int .u8 0, .int .u8 0, .int .u8 0, .int .u8 0, .int .u8 0, .int .u8 0, .int .u8 0, .int .u8 0, .int .u8 0, .int .u8 0, .int .u8 0, .int .u8 0, .int .u8 0, .int .u8 0, .int .u8 0, .int .u8 0, .int .u8 0, .int .u8 0, .int .i64 0, .int .i64 0, .int .u64 0, .int .u64 0, .int .u64 0, .int .u64 0, .int .u64 0, .int .u64 0, .int .u64 0, .int .u64 0, .int .u64 0, .int .u64 0, .int .u64 0, .slice none 0 0, .int .u64 0, .int .i64 0, .string (⟨#[]⟩ : ByteArray), .int .u64 0, .slice none 0 0]
def zq2 : Array Value := #[.int .u8 0, .int .u64 0, .int .u64 0, .int .i64 0, .int .u64 0, .int .u8 0, .string (⟨#[]⟩ : ByteArray), .string (⟨#[]⟩ : ByteArray), .string (⟨#[]⟩ : ByteArray), .string (⟨#[]⟩ : ByteArray), .int .u64 0, .int .u8 0, .int .u8 0, .int .u8 0, .int .u8 0, .int .u8 0, .int .u8 0, .int .u8 0, .int .u8 0, .int .u8 0, .int .u8 0, .int .u8 0, .int .u8 0, .int .u8 0, .int .u8 0, .int .u8 0, .int .u8 0, .int .u8 0, .int .u8 0, .int .u8 0, .int .u8 0, .int .u8 0, .int .u8 0, .int .u8 0, .int .u8 0, .int .u8 0, .int .u8 0, .int .u8 0, .int .u8 0, .int .u8 0, .int .u8 0, .int .u8 0, .int .u8 0, .slice none 0 0, .int .u8 0, .int .u8 0, .int .u8 0, .int .u8 0, .int .u8 0, .int .u8 0, .int .u8 0, .int .u8 0, .int .u8 0, .int .u8 0, .int .u8 0, .int .u8 0, .int .u8 0, .int .u8 0, .int .u8 0, .int .u8 0, .int .u8 0, .int .u8 0, .int .u8 0, .int .u8 0, .int .u8 0, .int .u8 0, .int .u8 0, .int .u8 0, .int .u8 0, .int .u8 0, .int .u8 0, .int .u8 0, .int .u8 0, .int .u8 0, .int .u8 0, .int .u8 0]
def zq3 : Array Value := #[.int .i64 0, .int .u64 0, .int .u8 0, .string (⟨#[]⟩ : ByteArray), .string (⟨#[]⟩ : ByteArray), .string (⟨#[]⟩ : ByteArray), .string (⟨#[]⟩ : ByteArray), .int .u64 0, .int .u8 0, .int .u8 0, .int .u8 0, .int .u8 0, .int .u8 0, .int .u8 0, .int .u8 0, .int .u8 0, .int .u8 0, .int .u8 0, .int .u8 0, .int .u8 0, .int .u8 0, .int .u8 0, .int .u8 0, .int .u8 0, .int .u8 0, .int .u8 0, .int .u8 0, .int .u8 0, .int .u8 0, .int .u8 0, .int .u8 0, .int .u8 0, .int .u8 0, .int .u8 0, .int .u8 0, .int .u8 0, .int .u8 0, .int .u8 0, .int .u8 0, .int .u8 0]
def zq4 : Array Value := #[.int .u8 0, .int .u8 0, .int .u8 0, .int .u8 0, .int .u8 0, .int .u8 0, .int .u8 0, .int .u8 0, .int .u8 0, .int .u8 0, .int .u8 0, .int .u8 0, .int .u8 0, .int .u8 0, .int .u8 0, .int .u8 0, .int .u8 0, .int .u8 0, .int .u8 0, .int .u8 0, .int .u8 0, .int .u8 0, .int .u8 0, .int .u8 0, .int .u8 0, .int .u8 0, .int .u8 0, .int .u8 0, .int .u8 0, .int .u8 0, .int .u8 0, .int .u8 0]
def zq5 : Array Value := #[.int .i64 0, .int .i64 0, .int .u64 0, .int .u64 0, .int .u64 0, .int .u64 0, .int .u64 0, .int .u64 0, .int .u64 0, .int .u64 0, .int .u64 0, .int .u64 0, .int .u64 0, .slice none 0 0]
structure SV where
  do_ : Int
  who_ : Int
  j_ : Int
  k_ : Int
  n_ : Int
def SV.cells (o : SV) : Array Value := #[.int .u8 o.do_, .int .i64 0, .int .i64 o.who_, .int .i64 o.j_, .int .i64 o.k_, .int .i64 o.n_, .int .u8 0, .string (⟨#[]⟩ : ByteArray), .string (⟨#[]⟩ : ByteArray), .string (⟨#[]⟩ : ByteArray), .string (⟨#[]⟩ : ByteArray), .int .u64 0, .int .u8 0, .int .u64 0, .int .u64 0, .int .i64 0, .int .u64 0, .int .u8 0, .string (⟨#[]⟩ : ByteArray), .string (⟨#[]⟩ : ByteArray), .string (⟨#[]⟩ : ByteArray), .string (⟨#[]⟩ : ByteArray), .int .u64 0, .int .u8 0, .int .u8 0, .int .u8 0, .int .u8 0, .int .u8 0, .int .u8 0, .int .u8 0, .int .u8 0, .int .u8 0, .int .u8 0, .int .u8 0, .int .u8 0, .int .u8 0, .int .u8 0, .int .u8 0, .int .u8 0, .int .u8 0, .int .u8 0, .int .u8 0, .int .u8 0, .int .u8 0, .int .u8 0, .int .u8 0, .int .u8 0, .int .u8 0, .int .u8 0, .int .u8 0, .int .u8 0, .int .u8 0, .int .u8 0, .int .u8 0, .int .u8 0, .slice none 0 0, .int .u8 0, .int .u8 0, .int .u8 0, .int .u8 0, .int .u8 0, .int .u8 0, .int .u8 0, .int .u8 0, .int .u8 0, .int .u8 0, .int .u8 0, .int .u8 0, .int .u8 0, .int .u8 0, .int .u8 0, .int .u8 0, .int .u8 0, .int .u8 0, .int .u8 0, .int .u8 0, .int .u8 0, .int .u8 0, .int .u8 0, .int .u8 0, .int .u8 0, .int .u8 0, .int .u8 0, .int .u8 0, .int .u8 0, .int .u8 0, .int .u8 0, .int .u8 0, .int .i64 0, .int .i64 0, .int .u64 0, .int .u64 0, .int .u64 0, .int .u64 0, .int .u64 0, .int .u64 0, .int .u64 0, .int .u64 0, .int .u64 0, .int .u64 0, .int .u64 0, .slice none 0 0, .int .u64 0, .int .i64 0, .string (⟨#[]⟩ : ByteArray), .int .u64 0, .slice none 0 0]
abbrev dSV : SV := ⟨0, 0, 0, 0, 0⟩
theorem svF : CellF SV.cells 107 := ⟨fun _ => rfl, fun _ => rfl⟩
def svZ : Value := .agg zq1
theorem svsOK : ElemOK Tryz.prog 26 50 107 528 := ⟨by kernel_rfl, ⟨Tryz.t50, .agg zq1, by kernel_rfl, by kernel_rfl, by kernel_rfl, by kernel_rfl, by kernel_rfl⟩, by decide⟩
section
variable {P : Program} {R0 : Exit → Act → World → Prop} {N : Nat} {Kk : List KItem} {S : Env} {w : World} {l : List Oper} {M : List Nat} {A : Asked} {rest : PT}
theorem GoR.bytesStr0 {i : Nat} {o : Oper} (ho : l[i]? = some o) (hw : wantE l.toArray S o = some true) {src dst e : TypeId} (ha : cvArgs S o = some (src, dst, .slice none 0 0)) (h1 : P.underlying src = some (.slice e)) (h2 : P.underlying e = some (.int .u8)) (h3 : P.underlying dst = some .string)
    (h : GoR P l M R0 Kk N ((i, [.prop True]) :: A) rest (S.setO o.dst (.string ⟨#[]⟩)) w) : GoR P l M R0 Kk N A (.rd i rest) S w := by
  refine GoR.read ho hw [.prop True] _ (fun a w' hf hn => ?_) ⟨trivial, trivial⟩ h
  unfold cvArgs at ha
  split at ha
  · rename_i s' d' x' hop
    split at ha
    · rename_i v hv
      simp only [Option.some.injEq, Prod.mk.injEq] at ha
      obtain ⟨rfl, rfl, rfl⟩ := ha
      have hv' := hf.op hv
      generalize a.eval = ρ at hv' ⊢
      simp only [execOp, hop, hv', Sem.run_bind, convert, run_underlying h1, run_underlying h3, run_underlying h2, Result.andThen_ok, Conv.bytesToString]
      rfl
    · cases ha
  · cases ha
end
def oddF (n : Int) : Bool :=
  (((decide ((n : Int) ≥ 3)) && (decide ((n : Int) ≤ 11))) && (((n % 2) : Int) == 1))
theorem oddF_spec {w0 w : World} {L : List Asn} (n : Int) (hs : St w0 L w) : Calls Tryz.prog 16 #[.int .i64 n] w (Ret fun rv w' => rv = .bool (oddF n) ∧ St w0 L w') := by
  refine enter (args := [.int .i64 n]) Tryz.func16 rfl Tryz.ntmps16 (Nat.le_of_ble_eq_true (by kernel_rfl)) ?_
  refine GoC.slots (S' := [(0, .int .i64 n)]) rfl ?_
  refine GoC.seq ?_
  refine Zqt (.rd 0 .done) ?_
  refine Zqk [(0, .gen [])] [] [(2, .bool false), (0, .int .i64 n)] ak0 ?_
  refine GoR.done (GoQ.thn (GoC.seq ?_))
  refine GoC.join (T := Unit) (E := fun _ => [(2, .bool (((decide ((n : Int) ≥ 3)) && (decide ((n : Int) ≤ 11))) && (((n % 2) : Int) == 1)))]) (F := fun _ w => St w0 (L) w) ?_ ?_
  · refine Zqt (.rd 0 (.rd 1 (.rd 2 (.rd 3 (.rd 4 (.rd 5 (.rd 6 (.rd 7 (.rd 8 (.rd 9 (.rd 10 (.rd 11 .done)))))))))))) ?_
    refine Zqk [(0, .gen []), (1, .gen []), (2, .gen [])] [] [(5, .bool (decide ((n : Int) ≥ 3))), (2, .bool false), (0, .int .i64 n)] ak0 ?_
    rcases Bool.eq_false_or_eq_true (decide ((n : Int) ≥ 3)) with h1 | h1
    · refine Zqs 5 true h1 ?_
      have h1' : (n : Int) ≥ 3 := of_decide_eq_true h1
      refine Zqk [(3, .gen []), (4, .gen []), (5, .gen []), (6, .gen [])] [] [(9, .bool (decide ((n : Int) ≤ 11))), (2, .bool false), (0, .int .i64 n)] ak0 ?_
      rcases Bool.eq_false_or_eq_true (decide ((n : Int) ≤ 11)) with h2 | h2
      · refine Zqs 9 true h2 ?_
        have h2' : (n : Int) ≤ 11 := of_decide_eq_true h2
        refine Zqk [(7, .gen []), (8, .div (n % 2)), (9, .gen []), (10, .gen []), (11, .gen [])] [(8, [.prop (IntKind.i64 = IntKind.i64 ∧ (2 : Int) ≠ 0 ∧ Int.tmod n 2 = n % 2)])] [(2, .bool (((n % 2) : Int) == 1))] (ak (okp ⟨rfl, by decide, Int.tmod_eq_emod_of_nonneg (by first | omega | exact Int.natCast_nonneg _)⟩ ok0) ak0) ?_
        refine GoR.done ?_
        refine GoQ.pick [2] (S' := [(2, .bool (((n % 2) : Int) == 1))]) (by kernel_rfl) ?_
        exact GoQ.meet1 () (by first | rfl | (simp only [h1, h2, Bool.not_true, Bool.not_false, Bool.true_or, Bool.false_or, Bool.true_and, Bool.false_and, Bool.or_true, Bool.or_false, Bool.and_true, Bool.and_false]; done) | (simp [h1, h2]; done)) hs
      · refine Zqs 9 false h2 ?_
        have h2' : ¬ ((n : Int) ≤ 11) := of_decide_eq_false h2
        refine Zqk [(7, .gen []), (8, .gen []), (9, .gen []), (10, .gen []), (11, .gen [])] [] [(2, .bool false)] ak0 ?_
        refine GoR.done ?_
        refine GoQ.pick [2] (S' := [(2, .bool false)]) (by kernel_rfl) ?_
        exact GoQ.meet1 () (by first | rfl | (simp only [h1, h2, Bool.not_true, Bool.not_false, Bool.true_or, Bool.false_or, Bool.true_and, Bool.false_and, Bool.or_true, Bool.or_false, Bool.and_true, Bool.and_false]; done) | (simp [h1, h2]; done)) hs
    · refine Zqs 5 false h1 ?_
      have h1' : ¬ ((n : Int) ≥ 3) := of_decide_eq_false h1
      refine Zqk [(3, .gen []), (4, .gen []), (5, .gen []), (6, .gen []), (7, .gen []), (8, .gen []), (9, .gen []), (10, .gen []), (11, .gen [])] [] [(2, .bool false)] ak0 ?_
      refine GoR.done ?_
      refine GoQ.pick [2] (S' := [(2, .bool false)]) (by kernel_rfl) ?_
      exact GoQ.meet1 () (by first | rfl | (simp only [h1, Bool.not_true, Bool.not_false, Bool.true_or, Bool.false_or, Bool.true_and, Bool.false_and, Bool.or_true, Bool.or_false, Bool.and_true, Bool.and_false]; done) | (simp [h1]; done)) hs
  intro _ w3 hs4
  refine GoQ.thn (GoC.ret ?_)
  refine Zq1 (v := .bool (((decide ((n : Int) ≥ 3)) && (decide ((n : Int) ≤ 11))) && (((n % 2) : Int) == 1))) ?_
  have hr : oddF n = (((decide ((n : Int) ≥ 3)) && (decide ((n : Int) ≤ 11))) && (((n % 2) : Int) == 1)) := by rw [oddF]
  exact ⟨by first | (rw [hr]; done) | (rw [hr]; rfl), hs4.drop 0⟩
theorem who_spec {w0 w : World} {L : List Asn} (m : Nat) (un : Int) (kd : Int) (A : Int) (N : Int) (hm : 3 ≤ m ∧ m ≤ 11) (hA : 0 ≤ A ∧ A ≤ 65535) (hw : 0 ≤ A % (m : Int) ∧ A % (m : Int) < 11) (hu : un ≤ 300) (hs : St w0 (L) w) : Calls Tryz.prog 42 #[.agg #[.int .i64 (m : Nat), .int .i64 un, .int .u8 kd, .int .u16 A, .int .i64 N]] w (Ret fun rv w' => rv = .int .i64 (1 + A % (m : Nat)) ∧ St w0 (L) w') := by
  refine enter (args := [.agg #[.int .i64 (m : Nat), .int .i64 un, .int .u8 kd, .int .u16 A, .int .i64 N]]) Tryz.func42 rfl Tryz.ntmps42 (Nat.le_of_ble_eq_true (by kernel_rfl)) ?_
  refine GoC.slots (S' := [(0, .agg #[.int .i64 (m : Nat), .int .i64 un, .int .u8 kd, .int .u16 A, .int .i64 N])]) rfl ?_
  refine GoC.seq ?_
  refine Zqt (.ef 0 (.rd 1 .done)) ?_
  refine GoR.box rfl rfl (by kernel_rfl) (v := .agg #[.int .i64 (m : Nat), .int .i64 un, .int .u8 kd, .int .u16 A, .int .i64 N]) (by kernel_rfl) hs (cs := #[.int .i64 (m : Nat), .int .i64 un, .int .u8 kd, .int .u16 A, .int .i64 N]) (by kernel_rfl) ?_
  intro b1 w2 hs3
  refine ⟨Zqo, ?_⟩
  refine Zqk [(1, .gen [])] [] [(2, .int .i64 0), (1, vp b1 0)] ak0 ?_
  refine GoR.done (GoQ.thn (GoC.seq ?_))
  refine Zqt (.rd 0 (.rd 1 (.rd 2 (.rd 3 (.rd 4 (.rd 5 (.rd 6 (.rd 7 (.rd 8 .done))))))))) ?_
  refine Zqk [(0, .gen []), (1, .gen []), (2, .gen [.int .u16 A]), (3, .as_ (.int .i64 A) (.gen [])), (4, .gen []), (5, .gen [.int .i64 (m : Nat)]), (6, .div (A % (m : Nat))), (7, .as_ (.int .i64 (1 + (A % (m : Nat)))) (.gen [])), (8, .gen [])] [(2, [.cell ⟨b1, 3, none⟩ (.int .u16 A)]), (3, [.prop (Value.int .i64 (IntKind.i64.wrap A) = Value.int .i64 A)]), (5, [.cell ⟨b1, 0, none⟩ (.int .i64 (m : Nat))]), (6, [.prop (IntKind.i64 = IntKind.i64 ∧ ((m : Nat) : Int) ≠ 0 ∧ Int.tmod A (m : Nat) = A % (m : Nat))]), (7, [.prop (Value.int .i64 (IntKind.i64.wrap (1 + (A % (m : Nat)))) = Value.int .i64 (1 + (A % (m : Nat))))])] [(2, .int .i64 (1 + (A % (m : Nat))))] (ak (okc (hs3.cell 0 rfl (by kernel_rfl)) ok0) (ak (okp (i64ok (by omega) (by omega)) ok0) (ak (okc (hs3.cell 0 rfl (by kernel_rfl)) ok0) (ak (okp ⟨rfl, by omega, Int.tmod_eq_emod_of_nonneg (by omega)⟩ ok0) (ak (okp (i64ok (by omega) (by omega)) ok0) ak0))))) ?_
  refine GoR.done (GoQ.thn (GoC.ret ?_))
  refine Zq1 (v := .int .i64 (1 + (A % (m : Nat)))) ?_
  have hs4 : St w0 (L) w2 := hs3.drop 1
  exact ⟨rfl, hs4⟩
theorem one_spec {w0 w : World} {L : List Asn} (x : SV) (hs : St w0 (L) w) : Calls Tryz.prog 40 #[.agg (SV.cells x)] w (Ret fun rv w' => ∃ (ao : Option Addr) (co : Nat), rv = .slice ao 1 co ∧ St w0 ((Sl ao co 50 107 SV.cells ([x])) :: L) w') := by
  refine enter (args := [.agg (SV.cells x)]) Tryz.func40 rfl Tryz.ntmps40 (Nat.le_of_ble_eq_true (by kernel_rfl)) ?_
  refine GoC.slots (S' := [(0, .agg (SV.cells x))]) rfl ?_
  refine GoC.seq ?_
  refine Zqt (.ef 0 (.rd 1 .done)) ?_
  refine GoR.box rfl rfl (by kernel_rfl) (v := .agg (SV.cells x)) (by kernel_rfl) hs (cs := SV.cells x) (by kernel_rfl) ?_
  intro b1 w2 hs3
  refine ⟨Zqo, ?_⟩
  refine Zqk [(1, .gen [])] [] [(2, .slice none 0 0), (1, vp b1 0)] ak0 ?_
  refine GoR.done (GoQ.thn (GoC.seq ?_))
  refine Zqt (.rd 0 (.ef 1 (.rd 2 .done))) ?_
  refine Zqk [(0, .agg (SV.cells x))] [(0, [.prop (Array.size (SV.cells x) = 107), .cells ⟨b1, 0, none⟩ (SV.cells x)])] [(3, .agg (SV.cells x)), (2, .slice none 0 0)] (ak (okp (by kernel_rfl) (oka (hs3.cells 0 0 rfl (by kernel_rfl)) ok0)) ak0) ?_
  refine GoR.sliceLit rfl (by kernel_rfl) (t := 26) (e := 50) (n := 1) (ps := [(0, .agg (SV.cells x))]) (by kernel_rfl) (by kernel_rfl) (ti := Tryz.t50) (z := svZ) (by kernel_rfl) (by kernel_rfl) (by decide) (by decide) (cs := SV.cells x) (by kernel_rfl) hs3 ?_
  intro b4 w5 hs6 hz7
  have hs8 : St w0 ((Sl (some ⟨b4, 0, none⟩) 1 50 107 SV.cells ([(x : SV)])) :: (Cel b1 (SV.cells x) 50) :: L) w5 := St.slOf (l := [(x : SV)]) (f := SV.cells) hs6 hz7 (svF).size (by simp only [List.length_cons, List.length_nil, maxLen]; omega) (by kernel_rfl)
  refine ⟨Zqo, ?_⟩
  refine Zqk [(2, .gen [])] [] [(2, vl b4 0 1 1)] ak0 ?_
  refine GoR.done (GoQ.thn (GoC.ret ?_))
  refine Zq1 (v := vl b4 0 1 1) ?_
  have hs9 : St w0 ((Cel b1 (SV.cells x) 50) :: (Sl (some ⟨b4, 0, none⟩) 1 50 107 SV.cells ([(x : SV)])) :: L) w5 := ((hs8.pull 0 rfl).pull 1 rfl)
  have hs10 : St w0 ((Sl (some ⟨b4, 0, none⟩) 1 50 107 SV.cells ([(x : SV)])) :: L) w5 := hs9.drop 1
  exact ⟨some ⟨b4, 0, none⟩, 1, rfl, hs10⟩
theorem pairs_nil {w0 w : World} {L : List Asn} (hs : St w0 (L) w) : Calls Tryz.prog 77 #[.slice none 0 0, .slice none 0 0] w (Ret fun rv w' => rv = .bool true ∧ St w0 (L) w') := by
  refine enter (args := [.slice none 0 0, .slice none 0 0]) Tryz.func77 rfl Tryz.ntmps77 (Nat.le_of_ble_eq_true (by kernel_rfl)) ?_
  refine GoC.slots (S' := [(0, .slice none 0 0), (1, .slice none 0 0)]) rfl ?_
  refine GoC.seq ?_
  refine Zqt (.rd 0 .done) ?_
  refine Zqk [(0, .gen [])] [] [(4, .bool false), (0, .slice none 0 0), (1, .slice none 0 0)] ak0 ?_
  refine GoR.done (GoQ.thn (GoC.seq (GoC.seq ?_)))
  refine Zqt (.rd 0 (.rd 1 (.rd 2 (.rd 3 (.rd 4 .done))))) ?_
  refine Zqk [(0, .gen []), (1, .gen []), (2, .gen []), (3, .gen []), (4, .gen [])] [] [(10, .bool false), (4, .bool false), (0, .slice none 0 0), (1, .slice none 0 0)] ak0 ?_
  refine GoR.done (GoQ.thn (ZqF (GoC.skip (GoQ.thn (GoC.seq (GoC.seq ?_))))))
  refine Zqt (.rd 0 .done) ?_
  refine Zqk [(0, .gen [])] [] [(5, .int .i64 0), (4, .bool false), (0, .slice none 0 0), (1, .slice none 0 0)] ak0 ?_
  refine GoR.done (GoQ.thn (GoC.block ?_))
  refine GoC.loop (T := Nat) (fun gg => [(0, .slice none 0 0), (1, .slice none 0 0), (5, .int .i64 (gg : Nat))]) (fun gg w => (gg = 0) ∧ St w0 (L) w) (fun gg => 0) 0 [0, 1, 5] (by kernel_rfl) ⟨rfl, hs⟩ ?_
  rintro k0 w1 ⟨hz0, hs2⟩
  have hz : k0 = 0 := hz0
  have hs3 : St w0 (L) w1 := hs2
  refine GoC.slots (S' := [(0, .slice none 0 0), (1, .slice none 0 0), (5, .int .i64 (k0 : Nat))]) rfl ?_
  refine GoC.seq (GoC.seq ?_)
  refine Zqt (.rd 0 (.rd 1 (.rd 2 (.rd 3 .done)))) ?_
  refine Zqk [(0, .gen []), (1, .gen []), (2, .gen []), (3, .gen [])] [] [(14, .bool (decide (((k0 : Nat) : Int) < 0))), (0, .slice none 0 0), (1, .slice none 0 0), (5, .int .i64 (k0 : Nat))] ak0 ?_
  refine GoR.done (GoQ.thn ?_)
  refine Zqc (t := decide (((k0 : Nat) : Int) < 0)) (fun h4 => ?_) (fun h4 => ?_)
  · have h4' : ((k0 : Nat) : Int) < 0 := of_decide_eq_true h4
    exfalso; omega
  · have h4' : ¬ (((k0 : Nat) : Int) < 0) := of_decide_eq_false h4
    refine GoC.exit (GoQ.skipC (GoQ.skipL (GoQ.hit (GoQ.thn (GoC.seq ?_)))))
    refine Zqt (.rd 0 .done) ?_
    refine Zqk [(0, .gen [])] [] [(4, .bool true)] ak0 ?_
    refine GoR.done (GoQ.thn (GoC.ret ?_))
    refine Zq1 (v := .bool true) ?_
    exact ⟨rfl, hs3⟩
theorem sameBody_nil {w0 w : World} {L : List Asn} (hs : St w0 (L) w) : Calls Tryz.prog 50 #[.agg zq2, .agg zq2] w (Ret fun rv w' => rv = .bool true ∧ St w0 (L) w') := by
  refine enter (args := [.agg zq2, .agg zq2]) Tryz.func50 rfl Tryz.ntmps50 (Nat.le_of_ble_eq_true (by kernel_rfl)) ?_
  refine GoC.slots (S' := [(0, .agg zq2), (1, .agg zq2)]) rfl ?_
  refine GoC.seq ?_
  refine Zqt (.ef 0 (.ef 1 (.rd 2 .done))) ?_
  refine GoR.box rfl rfl (by kernel_rfl) (v := .agg zq2) (by kernel_rfl) hs (cs := zq2) (by kernel_rfl) ?_
  intro b1 w2 hs3
  refine ⟨Zqo, ?_⟩
  refine GoR.box rfl rfl (by kernel_rfl) (v := .agg zq2) (by kernel_rfl) hs3 (cs := zq2) (by kernel_rfl) ?_
  intro b4 w5 hs6
  refine ⟨Zqo, ?_⟩
  refine Zqk [(2, .gen [])] [] [(4, .bool false), (3, vp b4 0), (2, vp b1 0)] ak0 ?_
  refine GoR.done (GoQ.thn (GoC.seq ?_))
  refine Zqt (.rd 0 (.rd 1 (.rd 2 (.rd 3 (.rd 4 (.rd 5 (.rd 6 (.rd 7 (.rd 8 (.rd 9 (.rd 10 (.rd 11 (.rd 12 (.rd 13 (.rd 14 (.rd 15 (.rd 16 (.rd 17 (.rd 18 (.rd 19 (.rd 20 (.rd 21 (.rd 22 (.rd 23 (.rd 24 (.rd 25 (.rd 26 (.rd 27 (.rd 28 (.rd 29 (.rd 30 (.ef 31 (.rd 32 (.rd 33 (.rd 34 (.rd 35 (.rd 36 (.rd 37 (.rd 38 (.rd 39 (.rd 40 .done))))))))))))))))))))))))))))))))))))))))) ?_
  refine Zqk [(0, .gen []), (1, .gen [.int .u8 0]), (2, .gen []), (3, .gen [.int .u8 0]), (4, .gen []), (5, .gen []), (6, .gen []), (7, .gen [.int .u64 0]), (8, .gen []), (9, .gen [.int .u64 0]), (10, .gen []), (11, .gen []), (12, .gen []), (13, .gen []), (14, .gen [.int .u64 0]), (15, .gen []), (16, .gen [.int .u64 0]), (17, .gen []), (18, .gen []), (19, .gen []), (20, .gen []), (21, .agg zq3), (22, .gen []), (23, .agg zq3)] [(1, [.cell ⟨b1, 0, none⟩ (.int .u8 0)]), (3, [.cell ⟨b4, 0, none⟩ (.int .u8 0)]), (7, [.cell ⟨b1, 1, none⟩ (.int .u64 0)]), (9, [.cell ⟨b4, 1, none⟩ (.int .u64 0)]), (14, [.cell ⟨b1, 2, none⟩ (.int .u64 0)]), (16, [.cell ⟨b4, 2, none⟩ (.int .u64 0)]), (21, [.prop (Array.size (zq3 : Array Value) = 40), .cells ⟨b1, 3, none⟩ zq3]), (23, [.prop (Array.size (zq3 : Array Value) = 40), .cells ⟨b4, 3, none⟩ zq3])] [(28, .agg zq3), (26, .agg zq3), (24, .bool true), (4, .bool false), (3, vp b4 0), (2, vp b1 0)] (ak (okc (hs6.cell 1 rfl (by kernel_rfl)) ok0) (ak (okc (hs6.cell 0 rfl (by kernel_rfl)) ok0) (ak (okc (hs6.cell 1 rfl (by kernel_rfl)) ok0) (ak (okc (hs6.cell 0 rfl (by kernel_rfl)) ok0) (ak (okc (hs6.cell 1 rfl (by kernel_rfl)) ok0) (ak (okc (hs6.cell 0 rfl (by kernel_rfl)) ok0) (ak (okp (by kernel_rfl) (oka (hs6.cells 1 3 rfl (by kernel_rfl)) ok0)) (ak (okp (by kernel_rfl) (oka (hs6.cells 0 3 rfl (by kernel_rfl)) ok0)) ak0)))))))) ?_
  refine GoR.eqAgg rfl (by kernel_rfl) (b := true) (t := 36) (xs := zq3) (ys := zq3) (m := 64) (by kernel_rfl) (by kernel_rfl) (by decide) (by kernel_rfl) (r := true) (by kernel_rfl) ?_
  refine Zqk [(25, .gen []), (26, .gen []), (27, .gen []), (28, .gen [.slice none 0 0]), (29, .gen []), (30, .gen [.slice none 0 0])] [(28, [.cell ⟨b1, 43, none⟩ (.slice none 0 0)]), (30, [.cell ⟨b4, 43, none⟩ (.slice none 0 0)])] [(35, .slice none 0 0), (33, .slice none 0 0), (31, .bool true), (4, .bool false), (3, vp b4 0), (2, vp b1 0)] (ak (okc (hs6.cell 1 rfl (by kernel_rfl)) ok0) (ak (okc (hs6.cell 0 rfl (by kernel_rfl)) ok0) ak0)) ?_
  refine Zqa (f := 77) (args := #[.slice none 0 0, .slice none 0 0]) Tryz.call77 (pairs_nil hs6) ?_
  rintro v8 w9 ⟨rfl, hs7⟩
  refine ⟨Zqo, ?_⟩
  refine Zqk [(32, .gen []), (33, .gen []), (34, .gen []), (35, .agg zq4), (36, .gen []), (37, .agg zq4)] [(35, [.prop (Array.size (zq4 : Array Value) = 32), .cells ⟨b1, 44, none⟩ zq4]), (37, [.prop (Array.size (zq4 : Array Value) = 32), .cells ⟨b4, 44, none⟩ zq4])] [(42, .agg zq4), (40, .agg zq4), (38, .bool true), (4, .bool false)] (ak (okp (by kernel_rfl) (oka (hs7.cells 1 44 rfl (by kernel_rfl)) ok0)) (ak (okp (by kernel_rfl) (oka (hs7.cells 0 44 rfl (by kernel_rfl)) ok0)) ak0)) ?_
  refine GoR.eqAgg rfl (by kernel_rfl) (b := true) (t := 34) (xs := zq4) (ys := zq4) (m := 64) (by kernel_rfl) (by kernel_rfl) (by decide) (by kernel_rfl) (r := true) (by kernel_rfl) ?_
  refine Zqk [(39, .gen []), (40, .gen [])] [] [(4, .bool true)] ak0 ?_
  refine GoR.done (GoQ.thn (GoC.ret ?_))
  refine Zq1 (v := .bool true) ?_
  have hs10 : St w0 (L) w9 := hs7.drop 2
  exact ⟨rfl, hs10⟩
theorem sameMsg_nil {w0 w : World} {L : List Asn} (hs : St w0 (L) w) : Calls Tryz.prog 21 #[.agg zq0, .agg zq0] w (Ret fun rv w' => rv = .bool true ∧ St w0 (L) w') := by
  refine enter (args := [.agg zq0, .agg zq0]) Tryz.func21 rfl Tryz.ntmps21 (Nat.le_of_ble_eq_true (by kernel_rfl)) ?_
  refine GoC.slots (S' := [(0, .agg zq0), (1, .agg zq0)]) rfl ?_
  refine GoC.seq ?_
  refine Zqt (.ef 0 (.ef 1 (.rd 2 .done))) ?_
  refine GoR.box rfl rfl (by kernel_rfl) (v := .agg zq0) (by kernel_rfl) hs (cs := zq0) (by kernel_rfl) ?_
  intro b1 w2 hs3
  refine ⟨Zqo, ?_⟩
  refine GoR.box rfl rfl (by kernel_rfl) (v := .agg zq0) (by kernel_rfl) hs3 (cs := zq0) (by kernel_rfl) ?_
  intro b4 w5 hs6
  refine ⟨Zqo, ?_⟩
  refine Zqk [(2, .gen [])] [] [(4, .bool false), (3, vp b4 0), (2, vp b1 0)] ak0 ?_
  refine GoR.done (GoQ.thn (GoC.seq ?_))
  refine Zqt (.rd 0 (.rd 1 (.rd 2 (.rd 3 (.rd 4 (.rd 5 (.rd 6 (.rd 7 (.rd 8 (.rd 9 (.rd 10 (.rd 11 (.rd 12 (.rd 13 (.rd 14 (.rd 15 (.rd 16 (.rd 17 (.rd 18 (.rd 19 (.rd 20 (.rd 21 (.rd 22 (.rd 23 (.ef 24 (.rd 25 (.rd 26 (.rd 27 (.rd 28 (.rd 29 (.rd 30 (.rd 31 (.rd 32 (.rd 33 .done)))))))))))))))))))))))))))))))))) ?_
  refine Zqk [(0, .gen []), (1, .gen [.int .i64 0]), (2, .gen []), (3, .gen [.int .i64 0]), (4, .gen []), (5, .gen []), (6, .gen []), (7, .gen [.int .u64 0]), (8, .gen []), (9, .gen [.int .u64 0]), (10, .gen []), (11, .gen []), (12, .gen []), (13, .gen []), (14, .agg #[.int .u64 0, .int .u64 0, .int .u64 0, .int .u64 0, .int .u64 0, .int .u64 0, .int .u64 0, .int .u64 0, .int .u64 0, .int .u64 0, .int .u64 0]), (15, .gen []), (16, .agg #[.int .u64 0, .int .u64 0, .int .u64 0, .int .u64 0, .int .u64 0, .int .u64 0, .int .u64 0, .int .u64 0, .int .u64 0, .int .u64 0, .int .u64 0])] [(1, [.cell ⟨b1, 0, none⟩ (.int .i64 0)]), (3, [.cell ⟨b4, 0, none⟩ (.int .i64 0)]), (7, [.cell ⟨b1, 1, none⟩ (.int .u64 0)]), (9, [.cell ⟨b4, 1, none⟩ (.int .u64 0)]), (14, [.prop (Array.size (#[.int .u64 0, .int .u64 0, .int .u64 0, .int .u64 0, .int .u64 0, .int .u64 0, .int .u64 0, .int .u64 0, .int .u64 0, .int .u64 0, .int .u64 0] : Array Value) = 11), .cells ⟨b1, 2, none⟩ #[.int .u64 0, .int .u64 0, .int .u64 0, .int .u64 0, .int .u64 0, .int .u64 0, .int .u64 0, .int .u64 0, .int .u64 0, .int .u64 0, .int .u64 0]]), (16, [.prop (Array.size (#[.int .u64 0, .int .u64 0, .int .u64 0, .int .u64 0, .int .u64 0, .int .u64 0, .int .u64 0, .int .u64 0, .int .u64 0, .int .u64 0, .int .u64 0] : Array Value) = 11), .cells ⟨b4, 2, none⟩ #[.int .u64 0, .int .u64 0, .int .u64 0, .int .u64 0, .int .u64 0, .int .u64 0, .int .u64 0, .int .u64 0, .int .u64 0, .int .u64 0, .int .u64 0]])] [(21, .agg #[.int .u64 0, .int .u64 0, .int .u64 0, .int .u64 0, .int .u64 0, .int .u64 0, .int .u64 0, .int .u64 0, .int .u64 0, .int .u64 0, .int .u64 0]), (19, .agg #[.int .u64 0, .int .u64 0, .int .u64 0, .int .u64 0, .int .u64 0, .int .u64 0, .int .u64 0, .int .u64 0, .int .u64 0, .int .u64 0, .int .u64 0]), (17, .bool true), (4, .bool false), (3, vp b4 0), (2, vp b1 0)] (ak (okc (hs6.cell 1 rfl (by kernel_rfl)) ok0) (ak (okc (hs6.cell 0 rfl (by kernel_rfl)) ok0) (ak (okc (hs6.cell 1 rfl (by kernel_rfl)) ok0) (ak (okc (hs6.cell 0 rfl (by kernel_rfl)) ok0) (ak (okp (by kernel_rfl) (oka (hs6.cells 1 2 rfl (by kernel_rfl)) ok0)) (ak (okp (by kernel_rfl) (oka (hs6.cells 0 2 rfl (by kernel_rfl)) ok0)) ak0)))))) ?_
  refine GoR.eqAgg rfl (by kernel_rfl) (b := true) (t := 41) (xs := #[.int .u64 0, .int .u64 0, .int .u64 0, .int .u64 0, .int .u64 0, .int .u64 0, .int .u64 0, .int .u64 0, .int .u64 0, .int .u64 0, .int .u64 0]) (ys := #[.int .u64 0, .int .u64 0, .int .u64 0, .int .u64 0, .int .u64 0, .int .u64 0, .int .u64 0, .int .u64 0, .int .u64 0, .int .u64 0, .int .u64 0]) (m := 64) (by kernel_rfl) (by kernel_rfl) (by decide) (by kernel_rfl) (r := true) (by kernel_rfl) ?_
  refine Zqk [(18, .gen []), (19, .gen []), (20, .gen []), (21, .agg zq2), (22, .gen []), (23, .agg zq2)] [(21, [.prop (Array.size (zq2 : Array Value) = 76), .cells ⟨b1, 13, none⟩ zq2]), (23, [.prop (Array.size (zq2 : Array Value) = 76), .cells ⟨b4, 13, none⟩ zq2])] [(28, .agg zq2), (26, .agg zq2), (24, .bool true), (4, .bool false), (3, vp b4 0), (2, vp b1 0)] (ak (okp (by kernel_rfl) (oka (hs6.cells 1 13 rfl (by kernel_rfl)) ok0)) (ak (okp (by kernel_rfl) (oka (hs6.cells 0 13 rfl (by kernel_rfl)) ok0)) ak0)) ?_
  refine Zqa (f := 50) (args := #[.agg zq2, .agg zq2]) Tryz.call50 (sameBody_nil hs6) ?_
  rintro v8 w9 ⟨rfl, hs7⟩
  refine ⟨Zqo, ?_⟩
  refine Zqk [(25, .gen []), (26, .gen []), (27, .gen []), (28, .agg zq4), (29, .gen []), (30, .agg zq4)] [(28, [.prop (Array.size (zq4 : Array Value) = 32), .cells ⟨b1, 89, none⟩ zq4]), (30, [.prop (Array.size (zq4 : Array Value) = 32), .cells ⟨b4, 89, none⟩ zq4])] [(35, .agg zq4), (33, .agg zq4), (31, .bool true), (4, .bool false)] (ak (okp (by kernel_rfl) (oka (hs7.cells 1 89 rfl (by kernel_rfl)) ok0)) (ak (okp (by kernel_rfl) (oka (hs7.cells 0 89 rfl (by kernel_rfl)) ok0)) ak0)) ?_
  refine GoR.eqAgg rfl (by kernel_rfl) (b := true) (t := 34) (xs := zq4) (ys := zq4) (m := 64) (by kernel_rfl) (by kernel_rfl) (by decide) (by kernel_rfl) (r := true) (by kernel_rfl) ?_
  refine Zqk [(32, .gen []), (33, .gen [])] [] [(4, .bool true)] ak0 ?_
  refine GoR.done (GoQ.thn (GoC.ret ?_))
  refine Zq1 (v := .bool true) ?_
  have hs10 : St w0 (L) w9 := hs7.drop 2
  exact ⟨rfl, hs10⟩
theorem sameBody33_nil {w0 w : World} {L : List Asn} (hs : St w0 (L) w) : Calls Tryz.prog 20 #[.agg zq2, .agg zq2] w (Ret fun rv w' => rv = .bool true ∧ St w0 (L) w') := by
  refine enter (args := [.agg zq2, .agg zq2]) Tryz.func20 rfl Tryz.ntmps20 (Nat.le_of_ble_eq_true (by kernel_rfl)) ?_
  refine GoC.slots (S' := [(0, .agg zq2), (1, .agg zq2)]) rfl ?_
  refine GoC.seq ?_
  refine Zqt (.ef 0 (.ef 1 (.rd 2 .done))) ?_
  refine GoR.box rfl rfl (by kernel_rfl) (v := .agg zq2) (by kernel_rfl) hs (cs := zq2) (by kernel_rfl) ?_
  intro b1 w2 hs3
  refine ⟨Zqo, ?_⟩
  refine GoR.box rfl rfl (by kernel_rfl) (v := .agg zq2) (by kernel_rfl) hs3 (cs := zq2) (by kernel_rfl) ?_
  intro b4 w5 hs6
  refine ⟨Zqo, ?_⟩
  refine Zqk [(2, .gen [])] [] [(4, .bool false), (3, vp b4 0), (2, vp b1 0)] ak0 ?_
  refine GoR.done (GoQ.thn (GoC.seq ?_))
  refine Zqt (.rd 0 (.rd 1 (.rd 2 (.rd 3 (.ef 4 (.rd 5 .done)))))) ?_
  refine Zqk [(0, .agg zq2), (1, .gen []), (2, .agg zq2), (3, .gen [])] [(0, [.prop (Array.size (zq2 : Array Value) = 76), .cells ⟨b1, 0, none⟩ zq2]), (2, [.prop (Array.size (zq2 : Array Value) = 76), .cells ⟨b4, 0, none⟩ zq2])] [(8, .agg zq0), (6, .agg zq0), (4, .bool false)] (ak (okp (by kernel_rfl) (oka (hs6.cells 1 0 rfl (by kernel_rfl)) ok0)) (ak (okp (by kernel_rfl) (oka (hs6.cells 0 0 rfl (by kernel_rfl)) ok0)) ak0)) ?_
  refine Zqa (f := 21) (args := #[.agg zq0, .agg zq0]) Tryz.call21 (sameMsg_nil hs6) ?_
  rintro v8 w9 ⟨rfl, hs7⟩
  refine ⟨Zqo, ?_⟩
  refine Zqk [(5, .gen [])] [] [(4, .bool true)] ak0 ?_
  refine GoR.done (GoQ.thn (GoC.ret ?_))
  refine Zq1 (v := .bool true) ?_
  have hs10 : St w0 (L) w9 := hs7.drop 2
  exact ⟨rfl, hs10⟩
theorem same_spec {w0 w : World} {L : List Asn} (x : SV) (hs : St w0 (L) w) : Calls Tryz.prog 8 #[.agg (SV.cells x), .agg (SV.cells x)] w (Ret fun rv w' => rv = .bool true ∧ St w0 (L) w') := by
  refine enter (args := [.agg (SV.cells x), .agg (SV.cells x)]) Tryz.func8 rfl Tryz.ntmps8 (Nat.le_of_ble_eq_true (by kernel_rfl)) ?_
  refine GoC.slots (S' := [(0, .agg (SV.cells x)), (1, .agg (SV.cells x))]) rfl ?_
  refine GoC.seq ?_
  refine Zqt (.ef 0 (.ef 1 (.rd 2 .done))) ?_
  refine GoR.box rfl rfl (by kernel_rfl) (v := .agg (SV.cells x)) (by kernel_rfl) hs (cs := SV.cells x) (by kernel_rfl) ?_
  intro b1 w2 hs3
  refine ⟨Zqo, ?_⟩
  refine GoR.box rfl rfl (by kernel_rfl) (v := .agg (SV.cells x)) (by kernel_rfl) hs3 (cs := SV.cells x) (by kernel_rfl) ?_
  intro b4 w5 hs6
  refine ⟨Zqo, ?_⟩
  refine Zqk [(2, .gen [])] [] [(4, .bool false), (3, vp b4 0), (2, vp b1 0)] ak0 ?_
  refine GoR.done (GoQ.thn (GoC.seq (GoC.seq ?_)))
  refine Zqt (.rd 0 (.rd 1 (.rd 2 (.rd 3 (.rd 4 (.rd 5 (.rd 6 (.rd 7 (.rd 8 (.rd 9 (.rd 10 (.rd 11 (.rd 12 (.rd 13 (.rd 14 (.rd 15 (.rd 16 (.rd 17 (.rd 18 (.rd 19 (.rd 20 (.rd 21 (.rd 22 (.rd 23 (.rd 24 (.rd 25 (.rd 26 (.rd 27 (.rd 28 (.rd 29 (.rd 30 (.rd 31 (.rd 32 (.rd 33 (.rd 34 (.rd 35 (.rd 36 (.rd 37 (.rd 38 (.rd 39 (.rd 40 (.rd 41 (.rd 42 (.rd 43 (.rd 44 (.rd 45 (.rd 46 (.rd 47 (.rd 48 (.rd 49 (.rd 50 (.rd 51 (.rd 52 (.rd 53 (.rd 54 (.rd 55 (.rd 56 (.rd 57 (.rd 58 (.rd 59 (.rd 60 (.rd 61 (.rd 62 (.rd 63 (.rd 64 (.rd 65 (.rd 66 (.rd 67 (.rd 68 (.rd 69 (.rd 70 (.rd 71 (.rd 72 (.rd 73 (.rd 74 (.rd 75 (.rd 76 (.rd 77 (.rd 78 (.rd 79 (.rd 80 (.rd 81 (.ef 82 (.rd 83 (.rd 84 .done))))))))))))))))))))))))))))))))))))))))))))))))))))))))))))))))))))))))))))))))))))) ?_
  refine Zqk [(0, .gen []), (1, .gen [.int .u8 x.do_]), (2, .gen []), (3, .gen [.int .u8 x.do_]), (4, .as_ (.bool false) (.gen [])), (5, .gen []), (6, .gen []), (7, .gen [.int .i64 0]), (8, .gen []), (9, .gen [.int .i64 0]), (10, .gen []), (11, .gen []), (12, .gen []), (13, .gen []), (14, .gen [.int .i64 x.who_]), (15, .gen []), (16, .gen [.int .i64 x.who_]), (17, .as_ (.bool false) (.gen [])), (18, .gen []), (19, .gen []), (20, .gen []), (21, .gen [.int .i64 x.j_]), (22, .gen []), (23, .gen [.int .i64 x.j_]), (24, .as_ (.bool false) (.gen [])), (25, .gen []), (26, .gen []), (27, .gen []), (28, .gen [.int .i64 x.k_]), (29, .gen []), (30, .gen [.int .i64 x.k_]), (31, .as_ (.bool false) (.gen [])), (32, .gen []), (33, .gen []), (34, .gen []), (35, .gen [.int .i64 x.n_]), (36, .gen []), (37, .gen [.int .i64 x.n_]), (38, .as_ (.bool false) (.gen [])), (39, .gen []), (40, .gen []), (41, .gen []), (42, .agg #[.int .u8 0, .string (⟨#[]⟩ : ByteArray), .string (⟨#[]⟩ : ByteArray), .string (⟨#[]⟩ : ByteArray), .string (⟨#[]⟩ : ByteArray), .int .u64 0]), (43, .gen []), (44, .agg #[.int .u8 0, .string (⟨#[]⟩ : ByteArray), .string (⟨#[]⟩ : ByteArray), .string (⟨#[]⟩ : ByteArray), .string (⟨#[]⟩ : ByteArray), .int .u64 0])] [(1, [.cell ⟨b1, 0, none⟩ (.int .u8 x.do_)]), (3, [.cell ⟨b4, 0, none⟩ (.int .u8 x.do_)]), (4, [.prop (Value.bool ((x.do_ : Int) != x.do_) = Value.bool false)]), (7, [.cell ⟨b1, 1, none⟩ (.int .i64 0)]), (9, [.cell ⟨b4, 1, none⟩ (.int .i64 0)]), (14, [.cell ⟨b1, 2, none⟩ (.int .i64 x.who_)]), (16, [.cell ⟨b4, 2, none⟩ (.int .i64 x.who_)]), (17, [.prop (Value.bool ((x.who_ : Int) != x.who_) = Value.bool false)]), (21, [.cell ⟨b1, 3, none⟩ (.int .i64 x.j_)]), (23, [.cell ⟨b4, 3, none⟩ (.int .i64 x.j_)]), (24, [.prop (Value.bool ((x.j_ : Int) != x.j_) = Value.bool false)]), (28, [.cell ⟨b1, 4, none⟩ (.int .i64 x.k_)]), (30, [.cell ⟨b4, 4, none⟩ (.int .i64 x.k_)]), (31, [.prop (Value.bool ((x.k_ : Int) != x.k_) = Value.bool false)]), (35, [.cell ⟨b1, 5, none⟩ (.int .i64 x.n_)]), (37, [.cell ⟨b4, 5, none⟩ (.int .i64 x.n_)]), (38, [.prop (Value.bool ((x.n_ : Int) != x.n_) = Value.bool false)]), (42, [.prop (Array.size (#[.int .u8 0, .string (⟨#[]⟩ : ByteArray), .string (⟨#[]⟩ : ByteArray), .string (⟨#[]⟩ : ByteArray), .string (⟨#[]⟩ : ByteArray), .int .u64 0] : Array Value) = 6), .cells ⟨b1, 6, none⟩ #[.int .u8 0, .string (⟨#[]⟩ : ByteArray), .string (⟨#[]⟩ : ByteArray), .string (⟨#[]⟩ : ByteArray), .string (⟨#[]⟩ : ByteArray), .int .u64 0]]), (44, [.prop (Array.size (#[.int .u8 0, .string (⟨#[]⟩ : ByteArray), .string (⟨#[]⟩ : ByteArray), .string (⟨#[]⟩ : ByteArray), .string (⟨#[]⟩ : ByteArray), .int .u64 0] : Array Value) = 6), .cells ⟨b4, 6, none⟩ #[.int .u8 0, .string (⟨#[]⟩ : ByteArray), .string (⟨#[]⟩ : ByteArray), .string (⟨#[]⟩ : ByteArray), .string (⟨#[]⟩ : ByteArray), .int .u64 0]])] [(52, .agg #[.int .u8 0, .string (⟨#[]⟩ : ByteArray), .string (⟨#[]⟩ : ByteArray), .string (⟨#[]⟩ : ByteArray), .string (⟨#[]⟩ : ByteArray), .int .u64 0]), (50, .agg #[.int .u8 0, .string (⟨#[]⟩ : ByteArray), .string (⟨#[]⟩ : ByteArray), .string (⟨#[]⟩ : ByteArray), .string (⟨#[]⟩ : ByteArray), .int .u64 0]), (48, .bool false), (4, .bool false), (3, vp b4 0), (2, vp b1 0)] (ak (okc (hs6.cell 1 rfl (by kernel_rfl)) ok0) (ak (okc (hs6.cell 0 rfl (by kernel_rfl)) ok0) (ak (okp (by simp) ok0) (ak (okc (hs6.cell 1 rfl (by kernel_rfl)) ok0) (ak (okc (hs6.cell 0 rfl (by kernel_rfl)) ok0) (ak (okc (hs6.cell 1 rfl (by kernel_rfl)) ok0) (ak (okc (hs6.cell 0 rfl (by kernel_rfl)) ok0) (ak (okp (by simp) ok0) (ak (okc (hs6.cell 1 rfl (by kernel_rfl)) ok0) (ak (okc (hs6.cell 0 rfl (by kernel_rfl)) ok0) (ak (okp (by simp) ok0) (ak (okc (hs6.cell 1 rfl (by kernel_rfl)) ok0) (ak (okc (hs6.cell 0 rfl (by kernel_rfl)) ok0) (ak (okp (by simp) ok0) (ak (okc (hs6.cell 1 rfl (by kernel_rfl)) ok0) (ak (okc (hs6.cell 0 rfl (by kernel_rfl)) ok0) (ak (okp (by simp) ok0) (ak (okp (by kernel_rfl) (oka (hs6.cells 1 6 rfl (by kernel_rfl)) ok0)) (ak (okp (by kernel_rfl) (oka (hs6.cells 0 6 rfl (by kernel_rfl)) ok0)) ak0))))))))))))))))))) ?_
  refine GoR.eqAgg rfl (by kernel_rfl) (b := false) (t := 33) (xs := #[.int .u8 0, .string (⟨#[]⟩ : ByteArray), .string (⟨#[]⟩ : ByteArray), .string (⟨#[]⟩ : ByteArray), .string (⟨#[]⟩ : ByteArray), .int .u64 0]) (ys := #[.int .u8 0, .string (⟨#[]⟩ : ByteArray), .string (⟨#[]⟩ : ByteArray), .string (⟨#[]⟩ : ByteArray), .string (⟨#[]⟩ : ByteArray), .int .u64 0]) (m := 64) (by kernel_rfl) (by kernel_rfl) (by decide) (by kernel_rfl) (r := false) (by kernel_rfl) ?_
  refine Zqk [(46, .gen []), (47, .gen []), (48, .gen []), (49, .gen [.int .u64 0]), (50, .gen []), (51, .gen [.int .u64 0]), (52, .gen []), (53, .gen []), (54, .gen []), (55, .gen []), (56, .agg #[.int .i64 0, .string (⟨#[]⟩ : ByteArray)]), (57, .gen []), (58, .agg #[.int .i64 0, .string (⟨#[]⟩ : ByteArray)])] [(49, [.cell ⟨b1, 102, none⟩ (.int .u64 0)]), (51, [.cell ⟨b4, 102, none⟩ (.int .u64 0)]), (56, [.prop (Array.size (#[.int .i64 0, .string (⟨#[]⟩ : ByteArray)] : Array Value) = 2), .cells ⟨b1, 103, none⟩ #[.int .i64 0, .string (⟨#[]⟩ : ByteArray)]]), (58, [.prop (Array.size (#[.int .i64 0, .string (⟨#[]⟩ : ByteArray)] : Array Value) = 2), .cells ⟨b4, 103, none⟩ #[.int .i64 0, .string (⟨#[]⟩ : ByteArray)]])] [(66, .agg #[.int .i64 0, .string (⟨#[]⟩ : ByteArray)]), (64, .agg #[.int .i64 0, .string (⟨#[]⟩ : ByteArray)]), (62, .bool false), (4, .bool false), (3, vp b4 0), (2, vp b1 0)] (ak (okc (hs6.cell 1 rfl (by kernel_rfl)) ok0) (ak (okc (hs6.cell 0 rfl (by kernel_rfl)) ok0) (ak (okp (by kernel_rfl) (oka (hs6.cells 1 103 rfl (by kernel_rfl)) ok0)) (ak (okp (by kernel_rfl) (oka (hs6.cells 0 103 rfl (by kernel_rfl)) ok0)) ak0)))) ?_
  refine GoR.eqAgg rfl (by kernel_rfl) (b := false) (t := 47) (xs := #[.int .i64 0, .string (⟨#[]⟩ : ByteArray)]) (ys := #[.int .i64 0, .string (⟨#[]⟩ : ByteArray)]) (m := 64) (by kernel_rfl) (by kernel_rfl) (by decide) (by kernel_rfl) (r := false) (by kernel_rfl) ?_
  refine Zqk [(60, .gen []), (61, .gen []), (62, .gen []), (63, .gen [.int .u64 0]), (64, .gen []), (65, .gen [.int .u64 0]), (66, .gen []), (67, .gen []), (68, .gen []), (69, .gen []), (70, .gen [.slice none 0 0])] [(63, [.cell ⟨b1, 105, none⟩ (.int .u64 0)]), (65, [.cell ⟨b4, 105, none⟩ (.int .u64 0)]), (70, [.cell ⟨b1, 106, none⟩ (.slice none 0 0)])] [(78, .slice none 0 0), (76, .bool false), (4, .bool false), (3, vp b4 0), (2, vp b1 0)] (ak (okc (hs6.cell 1 rfl (by kernel_rfl)) ok0) (ak (okc (hs6.cell 0 rfl (by kernel_rfl)) ok0) (ak (okc (hs6.cell 1 rfl (by kernel_rfl)) ok0) ak0))) ?_
  refine GoR.bytesStr0 rfl (by kernel_rfl) (src := 48) (dst := 9) (e := 5) (by kernel_rfl) (by kernel_rfl) (by kernel_rfl) (by kernel_rfl) ?_
  refine Zqk [(72, .gen []), (73, .gen [.slice none 0 0])] [(73, [.cell ⟨b4, 106, none⟩ (.slice none 0 0)])] [(81, .slice none 0 0), (79, .string (⟨#[]⟩ : ByteArray)), (76, .bool false), (4, .bool false), (3, vp b4 0), (2, vp b1 0)] (ak (okc (hs6.cell 0 rfl (by kernel_rfl)) ok0) ak0) ?_
  refine GoR.bytesStr0 rfl (by kernel_rfl) (src := 48) (dst := 9) (e := 5) (by kernel_rfl) (by kernel_rfl) (by kernel_rfl) (by kernel_rfl) ?_
  refine Zqk [(75, .gen []), (76, .gen []), (77, .gen []), (78, .gen []), (79, .agg zq2), (80, .gen []), (81, .agg zq2)] [(79, [.prop (Array.size (zq2 : Array Value) = 76), .cells ⟨b1, 12, none⟩ zq2]), (81, [.prop (Array.size (zq2 : Array Value) = 76), .cells ⟨b4, 12, none⟩ zq2])] [(89, .agg zq2), (87, .agg zq2), (85, .bool false), (4, .bool false), (3, vp b4 0), (2, vp b1 0)] (ak (okp (by kernel_rfl) (oka (hs6.cells 1 12 rfl (by kernel_rfl)) ok0)) (ak (okp (by kernel_rfl) (oka (hs6.cells 0 12 rfl (by kernel_rfl)) ok0)) ak0)) ?_
  refine Zqa (f := 20) (args := #[.agg zq2, .agg zq2]) Tryz.call20 (sameBody33_nil hs6) ?_
  rintro v8 w9 ⟨rfl, hs7⟩
  refine ⟨Zqo, ?_⟩
  refine Zqk [(83, .gen []), (84, .gen [])] [] [(92, .bool false), (4, .bool false), (3, vp b4 0), (2, vp b1 0)] ak0 ?_
  refine GoR.done (GoQ.thn (ZqF (GoC.skip (GoQ.thn (GoC.seq ?_)))))
  refine Zqt (.rd 0 (.rd 1 (.ef 2 (.ef 3 .done)))) ?_
  refine Zqk [(0, .gen []), (1, .agg zq5)] [(1, [.prop (Array.size (zq5 : Array Value) = 14), .cells ⟨b1, 88, none⟩ zq5])] [(94, .agg zq5), (4, .bool false), (3, vp b4 0)] (ak (okp (by kernel_rfl) (oka (hs7.cells 1 88 rfl (by kernel_rfl)) ok0)) ak0) ?_
  refine GoR.alloc rfl rfl (by kernel_rfl) (z := .agg zq5) (by kernel_rfl) hs7 (cs := zq5) (by kernel_rfl) ?_
  intro b10 w11 hs12
  refine ⟨Zqo, ?_⟩
  refine GoR.store rfl rfl (by kernel_rfl) (b := b10) (off := 0) (v := .agg zq5) (by kernel_rfl) (by kernel_rfl) (ti := Tryz.t44) (by kernel_rfl) hs12 0 rfl (by kernel_rfl) (by kernel_rfl) (Nat.le_of_ble_eq_true (by kernel_rfl)) (cs' := zq5) (L' := (Cel b10 zq5 44) :: (Cel b4 (SV.cells x) 50) :: (Cel b1 (SV.cells x) 50) :: L) (by kernel_rfl) rfl ?_
  intro w13 hs14
  refine ⟨Zqo, ?_⟩
  refine GoR.done (GoQ.thn (GoC.seq ?_))
  refine Zqt (.rd 0 (.rd 1 (.ef 2 (.ef 3 .done)))) ?_
  refine Zqk [(0, .gen []), (1, .agg zq5)] [(1, [.prop (Array.size (zq5 : Array Value) = 14), .cells ⟨b4, 88, none⟩ zq5])] [(96, .agg zq5), (5, vp b10 0), (4, .bool false)] (ak (okp (by kernel_rfl) (oka (hs14.cells 1 88 rfl (by kernel_rfl)) ok0)) ak0) ?_
  refine GoR.alloc rfl rfl (by kernel_rfl) (z := .agg zq5) (by kernel_rfl) hs14 (cs := zq5) (by kernel_rfl) ?_
  intro b15 w16 hs17
  refine ⟨Zqo, ?_⟩
  refine GoR.store rfl rfl (by kernel_rfl) (b := b15) (off := 0) (v := .agg zq5) (by kernel_rfl) (by kernel_rfl) (ti := Tryz.t44) (by kernel_rfl) hs17 0 rfl (by kernel_rfl) (by kernel_rfl) (Nat.le_of_ble_eq_true (by kernel_rfl)) (cs' := zq5) (L' := (Cel b15 zq5 44) :: (Cel b10 zq5 44) :: (Cel b4 (SV.cells x) 50) :: (Cel b1 (SV.cells x) 50) :: L) (by kernel_rfl) rfl ?_
  intro w18 hs19
  refine ⟨Zqo, ?_⟩
  refine GoR.done (GoQ.thn (GoC.seq (GoC.seq ?_)))
  refine Zqt (.rd 0 (.rd 1 (.rd 2 (.rd 3 (.rd 4 (.rd 5 (.rd 6 (.rd 7 (.rd 8 (.rd 9 (.rd 10 (.rd 11 (.rd 12 (.rd 13 (.rd 14 (.rd 15 (.rd 16 (.rd 17 (.rd 18 (.rd 19 (.rd 20 (.rd 21 (.rd 22 (.rd 23 (.rd 24 (.rd 25 (.rd 26 (.rd 27 .done)))))))))))))))))))))))))))) ?_
  refine Zqk [(0, .gen []), (1, .gen [.int .i64 0]), (2, .gen []), (3, .gen [.int .i64 0]), (4, .gen []), (5, .gen []), (6, .gen []), (7, .gen [.int .i64 0]), (8, .gen []), (9, .gen [.int .i64 0]), (10, .gen []), (11, .gen []), (12, .gen []), (13, .gen []), (14, .agg #[.int .u64 0, .int .u64 0, .int .u64 0, .int .u64 0, .int .u64 0, .int .u64 0, .int .u64 0, .int .u64 0, .int .u64 0, .int .u64 0, .int .u64 0]), (15, .gen []), (16, .agg #[.int .u64 0, .int .u64 0, .int .u64 0, .int .u64 0, .int .u64 0, .int .u64 0, .int .u64 0, .int .u64 0, .int .u64 0, .int .u64 0, .int .u64 0])] [(1, [.cell ⟨b10, 0, none⟩ (.int .i64 0)]), (3, [.cell ⟨b15, 0, none⟩ (.int .i64 0)]), (7, [.cell ⟨b10, 1, none⟩ (.int .i64 0)]), (9, [.cell ⟨b15, 1, none⟩ (.int .i64 0)]), (14, [.prop (Array.size (#[.int .u64 0, .int .u64 0, .int .u64 0, .int .u64 0, .int .u64 0, .int .u64 0, .int .u64 0, .int .u64 0, .int .u64 0, .int .u64 0, .int .u64 0] : Array Value) = 11), .cells ⟨b10, 2, none⟩ #[.int .u64 0, .int .u64 0, .int .u64 0, .int .u64 0, .int .u64 0, .int .u64 0, .int .u64 0, .int .u64 0, .int .u64 0, .int .u64 0, .int .u64 0]]), (16, [.prop (Array.size (#[.int .u64 0, .int .u64 0, .int .u64 0, .int .u64 0, .int .u64 0, .int .u64 0, .int .u64 0, .int .u64 0, .int .u64 0, .int .u64 0, .int .u64 0] : Array Value) = 11), .cells ⟨b15, 2, none⟩ #[.int .u64 0, .int .u64 0, .int .u64 0, .int .u64 0, .int .u64 0, .int .u64 0, .int .u64 0, .int .u64 0, .int .u64 0, .int .u64 0, .int .u64 0]])] [(113, .agg #[.int .u64 0, .int .u64 0, .int .u64 0, .int .u64 0, .int .u64 0, .int .u64 0, .int .u64 0, .int .u64 0, .int .u64 0, .int .u64 0, .int .u64 0]), (111, .agg #[.int .u64 0, .int .u64 0, .int .u64 0, .int .u64 0, .int .u64 0, .int .u64 0, .int .u64 0, .int .u64 0, .int .u64 0, .int .u64 0, .int .u64 0]), (109, .bool false), (6, vp b15 0), (5, vp b10 0), (4, .bool false)] (ak (okc (hs19.cell 1 rfl (by kernel_rfl)) ok0) (ak (okc (hs19.cell 0 rfl (by kernel_rfl)) ok0) (ak (okc (hs19.cell 1 rfl (by kernel_rfl)) ok0) (ak (okc (hs19.cell 0 rfl (by kernel_rfl)) ok0) (ak (okp (by kernel_rfl) (oka (hs19.cells 1 2 rfl (by kernel_rfl)) ok0)) (ak (okp (by kernel_rfl) (oka (hs19.cells 0 2 rfl (by kernel_rfl)) ok0)) ak0)))))) ?_
  refine GoR.eqAgg rfl (by kernel_rfl) (b := false) (t := 41) (xs := #[.int .u64 0, .int .u64 0, .int .u64 0, .int .u64 0, .int .u64 0, .int .u64 0, .int .u64 0, .int .u64 0, .int .u64 0, .int .u64 0, .int .u64 0]) (ys := #[.int .u64 0, .int .u64 0, .int .u64 0, .int .u64 0, .int .u64 0, .int .u64 0, .int .u64 0, .int .u64 0, .int .u64 0, .int .u64 0, .int .u64 0]) (m := 64) (by kernel_rfl) (by kernel_rfl) (by decide) (by kernel_rfl) (r := false) (by kernel_rfl) ?_
  refine Zqk [(18, .gen []), (19, .gen []), (20, .gen []), (21, .gen [.slice none 0 0]), (22, .gen []), (23, .gen []), (24, .gen [.slice none 0 0]), (25, .gen []), (26, .gen []), (27, .gen [])] [(21, [.cell ⟨b10, 13, none⟩ (.slice none 0 0)]), (24, [.cell ⟨b15, 13, none⟩ (.slice none 0 0)])] [(124, .bool false), (6, vp b15 0), (5, vp b10 0), (4, .bool false)] (ak (okc (hs19.cell 1 rfl (by kernel_rfl)) ok0) (ak (okc (hs19.cell 0 rfl (by kernel_rfl)) ok0) ak0)) ?_
  refine GoR.done (GoQ.thn (ZqF (GoC.skip (GoQ.thn (GoC.seq (GoC.seq ?_))))))
  refine Zqt (.rd 0 .done) ?_
  refine Zqk [(0, .gen [])] [] [(7, .int .i64 0), (6, vp b15 0), (5, vp b10 0), (4, .bool false)] ak0 ?_
  refine GoR.done (GoQ.thn (GoC.block ?_))
  refine GoC.loop (T := Nat) (fun gg => [(5, vp b10 0), (6, vp b15 0), (7, .int .i64 (gg : Nat))]) (fun gg w => (gg = 0) ∧ St w0 ((Cel b15 zq5 44) :: (Cel b10 zq5 44) :: (Cel b4 (SV.cells x) 50) :: (Cel b1 (SV.cells x) 50) :: L) w) (fun gg => 0) 0 [5, 6, 7] (by kernel_rfl) ⟨rfl, hs19⟩ ?_
  rintro k0 w20 ⟨hz0, hs21⟩
  have hz : k0 = 0 := hz0
  have hs22 : St w0 ((Cel b15 zq5 44) :: (Cel b10 zq5 44) :: (Cel b4 (SV.cells x) 50) :: (Cel b1 (SV.cells x) 50) :: L) w20 := hs21
  refine GoC.slots (S' := [(5, vp b10 0), (6, vp b15 0), (7, .int .i64 (k0 : Nat))]) rfl ?_
  refine GoC.seq (GoC.seq ?_)
  refine Zqt (.rd 0 (.rd 1 (.rd 2 (.rd 3 (.rd 4 .done))))) ?_
  refine Zqk [(0, .gen []), (1, .gen []), (2, .gen [.slice none 0 0]), (3, .gen []), (4, .gen [])] [(2, [.cell ⟨b10, 13, none⟩ (.slice none 0 0)])] [(129, .bool (decide (((k0 : Nat) : Int) < 0))), (5, vp b10 0), (6, vp b15 0), (7, .int .i64 (k0 : Nat))] (ak (okc (hs22.cell 1 rfl (by kernel_rfl)) ok0) ak0) ?_
  refine GoR.done (GoQ.thn ?_)
  refine Zqc (t := decide (((k0 : Nat) : Int) < 0)) (fun h23 => ?_) (fun h23 => ?_)
  · have h23' : ((k0 : Nat) : Int) < 0 := of_decide_eq_true h23
    exfalso; omega
  · have h23' : ¬ (((k0 : Nat) : Int) < 0) := of_decide_eq_false h23
    refine GoC.exit (GoQ.skipC (GoQ.skipL (GoQ.hit (GoQ.thn (GoC.seq ?_)))))
    refine Zqt (.rd 0 .done) ?_
    refine Zqk [(0, .gen [])] [] [(4, .bool true)] ak0 ?_
    refine GoR.done (GoQ.thn (GoC.ret ?_))
    refine Zq1 (v := .bool true) ?_
    have hs24 : St w0 (L) w20 := hs22.drop 4
    exact ⟨rfl, hs24⟩
end Go.Proofs.YtahmejhidelkbaaGreatDoor

/-! DsB -/
namespace Go.Proofs.YtahmejhidelkbaaGreatDoor
open Go.RowKit Go.Sx
set_option linter.unusedVariables false
set_option linter.unusedSimpArgs false
set_option linter.unnecessarySimpa false
set_option maxRecDepth 100000
def turnAt (q : Nat) : SV := ⟨if q % 2 = 1 then 4 else 3, ((q / 2 : Nat) : Int) + 1, 0, 0, 0⟩
def turnR (i : Nat) : List SV := (List.range i).map turnAt
def turnL (m : Nat) : List SV := turnR (2 * m)
theorem turnR_succ (i : Nat) : turnR (i + 1) = turnR i ++ [turnAt i] := by simp [turnR, List.range_succ]
theorem turnR_length (i : Nat) : (turnR i).length = i := by simp [turnR]
theorem turn_two (k : Nat) : turnR (2 * (k + 1)) = turnR (2 * k) ++ [⟨3, (k : Int) + 1, 0, 0, 0⟩, ⟨4, (k : Int) + 1, 0, 0, 0⟩] := by
  rw [show 2 * (k + 1) = 2 * k + 1 + 1 by omega, turnR_succ, turnR_succ, List.append_assoc]
  congr 1
  have h1 : turnAt (2 * k) = ⟨3, (k : Int) + 1, 0, 0, 0⟩ := by
    unfold turnAt; rw [if_neg (by omega), show 2 * k / 2 = k by omega]
  have h2 : turnAt (2 * k + 1) = ⟨4, (k : Int) + 1, 0, 0, 0⟩ := by
    unfold turnAt; rw [if_pos (by omega), show (2 * k + 1) / 2 = k by omega]
  rw [h1, h2]; rfl
def twiceL (u : Nat) : List SV := (List.range u).map (fun (q : Nat) => (⟨7, 0, 0, ((q : Nat) : Int), 0⟩ : SV))
theorem twiceL_succ (k : Nat) : twiceL (k + 1) = twiceL k ++ [⟨7, 0, 0, (k : Int), 0⟩] := by simp [twiceL, List.range_succ]
theorem twiceL_length (k : Nat) : (twiceL k).length = k := by simp [twiceL]
def loseL (u : Nat) : List SV := List.replicate u ⟨6, 0, 0, 0, 0⟩
theorem loseL_succ (k : Nat) : loseL (k + 1) = loseL k ++ [⟨6, 0, 0, 0, 0⟩] := List.replicate_succ'
theorem loseL_length (k : Nat) : (loseL k).length = k := List.length_replicate ..
def mul64F (x : Int) (y : Int) : Int × Int :=
  ((IntKind.u64.wrap ((IntKind.u64.wrap ((IntKind.u64.wrap ((iShr .u64 x 32) * (iShr .u64 y 32))) + (iShr .u64 (IntKind.u64.wrap ((IntKind.u64.wrap ((iShr .u64 x 32) * (iAnd .u64 y 4294967295))) + (iShr .u64 (IntKind.u64.wrap ((iAnd .u64 x 4294967295) * (iAnd .u64 y 4294967295))) 32))) 32))) + (iShr .u64 (IntKind.u64.wrap ((iAnd .u64 (IntKind.u64.wrap ((IntKind.u64.wrap ((iShr .u64 x 32) * (iAnd .u64 y 4294967295))) + (iShr .u64 (IntKind.u64.wrap ((iAnd .u64 x 4294967295) * (iAnd .u64 y 4294967295))) 32))) 4294967295) + (IntKind.u64.wrap ((iAnd .u64 x 4294967295) * (iShr .u64 y 32))))) 32))), (IntKind.u64.wrap (x * y)))
theorem mul64F_spec {w0 w : World} {L : List Asn} (x : Int) (y : Int) (hs : St w0 L w) : Calls Tryz.prog 119 #[.int .u64 x, .int .u64 y] w (Ret fun rv w' => rv = .tuple #[.int .u64 ((mul64F x y).1), .int .u64 ((mul64F x y).2)] ∧ St w0 L w') := by
  refine enter (args := [.int .u64 x, .int .u64 y]) Tryz.func119 rfl Tryz.ntmps119 (Nat.le_of_ble_eq_true (by kernel_rfl)) ?_
  refine GoC.slots (S' := [(0, .int .u64 x), (1, .int .u64 y)]) rfl ?_
  refine GoC.seq ?_
  refine Zqt (.rd 0 (.rd 1 .done)) ?_
  refine Zqk [(0, .gen []), (1, .gen [])] [] [(5, .int .u64 0), (4, .int .u64 0), (0, .int .u64 x), (1, .int .u64 y)] ak0 ?_
  refine GoR.done (GoQ.thn (GoC.seq ?_))
  refine Zqt (.rd 0 (.rd 1 (.rd 2 .done))) ?_
  refine Zqk [(0, .gen []), (1, .gen []), (2, .gen [])] [] [(6, .int .u64 (iAnd .u64 x 4294967295)), (5, .int .u64 0), (4, .int .u64 0), (0, .int .u64 x), (1, .int .u64 y)] ak0 ?_
  refine GoR.done (GoQ.thn (GoC.seq ?_))
  refine Zqt (.rd 0 (.rd 1 (.rd 2 .done))) ?_
  refine Zqk [(0, .gen []), (1, .shift (iShr .u64 x 32)), (2, .gen [])] [(1, [.prop ((0 : Int) ≤ 32 ∧ Int.fdiv x (2 ^ (min (Int.toNat 32) (IntKind.bits .u64))) = iShr .u64 x 32)])] [(7, .int .u64 (iShr .u64 x 32)), (6, .int .u64 (iAnd .u64 x 4294967295)), (5, .int .u64 0), (4, .int .u64 0), (0, .int .u64 x), (1, .int .u64 y)] (ak (okp ⟨(by first | omega | exact uwrap_nn rfl _), rfl⟩ ok0) ak0) ?_
  refine GoR.done (GoQ.thn (GoC.seq ?_))
  refine Zqt (.rd 0 (.rd 1 (.rd 2 .done))) ?_
  refine Zqk [(0, .gen []), (1, .gen []), (2, .gen [])] [] [(8, .int .u64 (iAnd .u64 y 4294967295)), (7, .int .u64 (iShr .u64 x 32)), (6, .int .u64 (iAnd .u64 x 4294967295)), (5, .int .u64 0), (4, .int .u64 0), (0, .int .u64 x), (1, .int .u64 y)] ak0 ?_
  refine GoR.done (GoQ.thn (GoC.seq ?_))
  refine Zqt (.rd 0 (.rd 1 (.rd 2 .done))) ?_
  refine Zqk [(0, .gen []), (1, .shift (iShr .u64 y 32)), (2, .gen [])] [(1, [.prop ((0 : Int) ≤ 32 ∧ Int.fdiv y (2 ^ (min (Int.toNat 32) (IntKind.bits .u64))) = iShr .u64 y 32)])] [(9, .int .u64 (iShr .u64 y 32)), (8, .int .u64 (iAnd .u64 y 4294967295)), (7, .int .u64 (iShr .u64 x 32)), (6, .int .u64 (iAnd .u64 x 4294967295)), (5, .int .u64 0), (4, .int .u64 0), (0, .int .u64 x), (1, .int .u64 y)] (ak (okp ⟨(by first | omega | exact uwrap_nn rfl _), rfl⟩ ok0) ak0) ?_
  refine GoR.done (GoQ.thn (GoC.seq ?_))
  refine Zqt (.rd 0 (.rd 1 (.rd 2 (.rd 3 .done)))) ?_
  refine Zqk [(0, .gen []), (1, .gen []), (2, .gen []), (3, .gen [])] [] [(10, .int .u64 (IntKind.u64.wrap ((iAnd .u64 x 4294967295) * (iAnd .u64 y 4294967295)))), (9, .int .u64 (iShr .u64 y 32)), (8, .int .u64 (iAnd .u64 y 4294967295)), (7, .int .u64 (iShr .u64 x 32)), (6, .int .u64 (iAnd .u64 x 4294967295)), (5, .int .u64 0), (4, .int .u64 0), (0, .int .u64 x), (1, .int .u64 y)] ak0 ?_
  refine GoR.done (GoQ.thn (GoC.seq ?_))
  refine Zqt (.rd 0 (.rd 1 (.rd 2 (.rd 3 (.rd 4 (.rd 5 (.rd 6 .done))))))) ?_
  refine Zqk [(0, .gen []), (1, .gen []), (2, .gen []), (3, .gen []), (4, .shift (iShr .u64 (IntKind.u64.wrap ((iAnd .u64 x 4294967295) * (iAnd .u64 y 4294967295))) 32)), (5, .gen []), (6, .gen [])] [(4, [.prop ((0 : Int) ≤ 32 ∧ Int.fdiv (IntKind.u64.wrap ((iAnd .u64 x 4294967295) * (iAnd .u64 y 4294967295))) (2 ^ (min (Int.toNat 32) (IntKind.bits .u64))) = iShr .u64 (IntKind.u64.wrap ((iAnd .u64 x 4294967295) * (iAnd .u64 y 4294967295))) 32)])] [(11, .int .u64 (IntKind.u64.wrap ((IntKind.u64.wrap ((iShr .u64 x 32) * (iAnd .u64 y 4294967295))) + (iShr .u64 (IntKind.u64.wrap ((iAnd .u64 x 4294967295) * (iAnd .u64 y 4294967295))) 32)))), (9, .int .u64 (iShr .u64 y 32)), (7, .int .u64 (iShr .u64 x 32)), (6, .int .u64 (iAnd .u64 x 4294967295)), (5, .int .u64 0), (4, .int .u64 0), (0, .int .u64 x), (1, .int .u64 y)] (ak (okp ⟨(by first | omega | exact uwrap_nn rfl _), rfl⟩ ok0) ak0) ?_
  refine GoR.done (GoQ.thn (GoC.seq ?_))
  refine Zqt (.rd 0 (.rd 1 (.rd 2 .done))) ?_
  refine Zqk [(0, .gen []), (1, .gen []), (2, .gen [])] [] [(12, .int .u64 (iAnd .u64 (IntKind.u64.wrap ((IntKind.u64.wrap ((iShr .u64 x 32) * (iAnd .u64 y 4294967295))) + (iShr .u64 (IntKind.u64.wrap ((iAnd .u64 x 4294967295) * (iAnd .u64 y 4294967295))) 32))) 4294967295)), (11, .int .u64 (IntKind.u64.wrap ((IntKind.u64.wrap ((iShr .u64 x 32) * (iAnd .u64 y 4294967295))) + (iShr .u64 (IntKind.u64.wrap ((iAnd .u64 x 4294967295) * (iAnd .u64 y 4294967295))) 32)))), (9, .int .u64 (iShr .u64 y 32)), (7, .int .u64 (iShr .u64 x 32)), (6, .int .u64 (iAnd .u64 x 4294967295)), (5, .int .u64 0), (4, .int .u64 0), (0, .int .u64 x), (1, .int .u64 y)] ak0 ?_
  refine GoR.done (GoQ.thn (GoC.seq ?_))
  refine Zqt (.rd 0 (.rd 1 (.rd 2 .done))) ?_
  refine Zqk [(0, .gen []), (1, .shift (iShr .u64 (IntKind.u64.wrap ((IntKind.u64.wrap ((iShr .u64 x 32) * (iAnd .u64 y 4294967295))) + (iShr .u64 (IntKind.u64.wrap ((iAnd .u64 x 4294967295) * (iAnd .u64 y 4294967295))) 32))) 32)), (2, .gen [])] [(1, [.prop ((0 : Int) ≤ 32 ∧ Int.fdiv (IntKind.u64.wrap ((IntKind.u64.wrap ((iShr .u64 x 32) * (iAnd .u64 y 4294967295))) + (iShr .u64 (IntKind.u64.wrap ((iAnd .u64 x 4294967295) * (iAnd .u64 y 4294967295))) 32))) (2 ^ (min (Int.toNat 32) (IntKind.bits .u64))) = iShr .u64 (IntKind.u64.wrap ((IntKind.u64.wrap ((iShr .u64 x 32) * (iAnd .u64 y 4294967295))) + (iShr .u64 (IntKind.u64.wrap ((iAnd .u64 x 4294967295) * (iAnd .u64 y 4294967295))) 32))) 32)])] [(13, .int .u64 (iShr .u64 (IntKind.u64.wrap ((IntKind.u64.wrap ((iShr .u64 x 32) * (iAnd .u64 y 4294967295))) + (iShr .u64 (IntKind.u64.wrap ((iAnd .u64 x 4294967295) * (iAnd .u64 y 4294967295))) 32))) 32)), (12, .int .u64 (iAnd .u64 (IntKind.u64.wrap ((IntKind.u64.wrap ((iShr .u64 x 32) * (iAnd .u64 y 4294967295))) + (iShr .u64 (IntKind.u64.wrap ((iAnd .u64 x 4294967295) * (iAnd .u64 y 4294967295))) 32))) 4294967295)), (9, .int .u64 (iShr .u64 y 32)), (7, .int .u64 (iShr .u64 x 32)), (6, .int .u64 (iAnd .u64 x 4294967295)), (5, .int .u64 0), (4, .int .u64 0), (0, .int .u64 x), (1, .int .u64 y)] (ak (okp ⟨(by first | omega | exact uwrap_nn rfl _), rfl⟩ ok0) ak0) ?_
  refine GoR.done (GoQ.thn (GoC.seq ?_))
  refine Zqt (.rd 0 (.rd 1 (.rd 2 (.rd 3 (.rd 4 (.rd 5 .done)))))) ?_
  refine Zqk [(0, .gen []), (1, .gen []), (2, .gen []), (3, .gen []), (4, .gen []), (5, .gen [])] [] [(12, .int .u64 (IntKind.u64.wrap ((iAnd .u64 (IntKind.u64.wrap ((IntKind.u64.wrap ((iShr .u64 x 32) * (iAnd .u64 y 4294967295))) + (iShr .u64 (IntKind.u64.wrap ((iAnd .u64 x 4294967295) * (iAnd .u64 y 4294967295))) 32))) 4294967295) + (IntKind.u64.wrap ((iAnd .u64 x 4294967295) * (iShr .u64 y 32)))))), (13, .int .u64 (iShr .u64 (IntKind.u64.wrap ((IntKind.u64.wrap ((iShr .u64 x 32) * (iAnd .u64 y 4294967295))) + (iShr .u64 (IntKind.u64.wrap ((iAnd .u64 x 4294967295) * (iAnd .u64 y 4294967295))) 32))) 32)), (9, .int .u64 (iShr .u64 y 32)), (7, .int .u64 (iShr .u64 x 32)), (5, .int .u64 0), (4, .int .u64 0), (0, .int .u64 x), (1, .int .u64 y)] ak0 ?_
  refine GoR.done (GoQ.thn (GoC.seq ?_))
  refine Zqt (.rd 0 (.rd 1 (.rd 2 (.rd 3 (.rd 4 (.rd 5 (.rd 6 (.rd 7 (.rd 8 .done))))))))) ?_
  refine Zqk [(0, .gen []), (1, .gen []), (2, .gen []), (3, .gen []), (4, .gen []), (5, .gen []), (6, .shift (iShr .u64 (IntKind.u64.wrap ((iAnd .u64 (IntKind.u64.wrap ((IntKind.u64.wrap ((iShr .u64 x 32) * (iAnd .u64 y 4294967295))) + (iShr .u64 (IntKind.u64.wrap ((iAnd .u64 x 4294967295) * (iAnd .u64 y 4294967295))) 32))) 4294967295) + (IntKind.u64.wrap ((iAnd .u64 x 4294967295) * (iShr .u64 y 32))))) 32)), (7, .gen []), (8, .gen [])] [(6, [.prop ((0 : Int) ≤ 32 ∧ Int.fdiv (IntKind.u64.wrap ((iAnd .u64 (IntKind.u64.wrap ((IntKind.u64.wrap ((iShr .u64 x 32) * (iAnd .u64 y 4294967295))) + (iShr .u64 (IntKind.u64.wrap ((iAnd .u64 x 4294967295) * (iAnd .u64 y 4294967295))) 32))) 4294967295) + (IntKind.u64.wrap ((iAnd .u64 x 4294967295) * (iShr .u64 y 32))))) (2 ^ (min (Int.toNat 32) (IntKind.bits .u64))) = iShr .u64 (IntKind.u64.wrap ((iAnd .u64 (IntKind.u64.wrap ((IntKind.u64.wrap ((iShr .u64 x 32) * (iAnd .u64 y 4294967295))) + (iShr .u64 (IntKind.u64.wrap ((iAnd .u64 x 4294967295) * (iAnd .u64 y 4294967295))) 32))) 4294967295) + (IntKind.u64.wrap ((iAnd .u64 x 4294967295) * (iShr .u64 y 32))))) 32)])] [(4, .int .u64 (IntKind.u64.wrap ((IntKind.u64.wrap ((IntKind.u64.wrap ((iShr .u64 x 32) * (iShr .u64 y 32))) + (iShr .u64 (IntKind.u64.wrap ((IntKind.u64.wrap ((iShr .u64 x 32) * (iAnd .u64 y 4294967295))) + (iShr .u64 (IntKind.u64.wrap ((iAnd .u64 x 4294967295) * (iAnd .u64 y 4294967295))) 32))) 32))) + (iShr .u64 (IntKind.u64.wrap ((iAnd .u64 (IntKind.u64.wrap ((IntKind.u64.wrap ((iShr .u64 x 32) * (iAnd .u64 y 4294967295))) + (iShr .u64 (IntKind.u64.wrap ((iAnd .u64 x 4294967295) * (iAnd .u64 y 4294967295))) 32))) 4294967295) + (IntKind.u64.wrap ((iAnd .u64 x 4294967295) * (iShr .u64 y 32))))) 32)))), (5, .int .u64 0), (0, .int .u64 x), (1, .int .u64 y)] (ak (okp ⟨(by first | omega | exact uwrap_nn rfl _), rfl⟩ ok0) ak0) ?_
  refine GoR.done (GoQ.thn (GoC.seq ?_))
  refine Zqt (.rd 0 (.rd 1 (.rd 2 (.rd 3 .done)))) ?_
  refine Zqk [(0, .gen []), (1, .gen []), (2, .gen []), (3, .gen [])] [] [(5, .int .u64 (IntKind.u64.wrap (x * y))), (4, .int .u64 (IntKind.u64.wrap ((IntKind.u64.wrap ((IntKind.u64.wrap ((iShr .u64 x 32) * (iShr .u64 y 32))) + (iShr .u64 (IntKind.u64.wrap ((IntKind.u64.wrap ((iShr .u64 x 32) * (iAnd .u64 y 4294967295))) + (iShr .u64 (IntKind.u64.wrap ((iAnd .u64 x 4294967295) * (iAnd .u64 y 4294967295))) 32))) 32))) + (iShr .u64 (IntKind.u64.wrap ((iAnd .u64 (IntKind.u64.wrap ((IntKind.u64.wrap ((iShr .u64 x 32) * (iAnd .u64 y 4294967295))) + (iShr .u64 (IntKind.u64.wrap ((iAnd .u64 x 4294967295) * (iAnd .u64 y 4294967295))) 32))) 4294967295) + (IntKind.u64.wrap ((iAnd .u64 x 4294967295) * (iShr .u64 y 32))))) 32))))] ak0 ?_
  refine GoR.done (GoQ.thn (GoC.ret ?_))
  refine Zq2 (v := .int .u64 (IntKind.u64.wrap ((IntKind.u64.wrap ((IntKind.u64.wrap ((iShr .u64 x 32) * (iShr .u64 y 32))) + (iShr .u64 (IntKind.u64.wrap ((IntKind.u64.wrap ((iShr .u64 x 32) * (iAnd .u64 y 4294967295))) + (iShr .u64 (IntKind.u64.wrap ((iAnd .u64 x 4294967295) * (iAnd .u64 y 4294967295))) 32))) 32))) + (iShr .u64 (IntKind.u64.wrap ((iAnd .u64 (IntKind.u64.wrap ((IntKind.u64.wrap ((iShr .u64 x 32) * (iAnd .u64 y 4294967295))) + (iShr .u64 (IntKind.u64.wrap ((iAnd .u64 x 4294967295) * (iAnd .u64 y 4294967295))) 32))) 4294967295) + (IntKind.u64.wrap ((iAnd .u64 x 4294967295) * (iShr .u64 y 32))))) 32)))) (v' := .int .u64 (IntKind.u64.wrap (x * y))) ?_
  have hr : mul64F x y = ((IntKind.u64.wrap ((IntKind.u64.wrap ((IntKind.u64.wrap ((iShr .u64 x 32) * (iShr .u64 y 32))) + (iShr .u64 (IntKind.u64.wrap ((IntKind.u64.wrap ((iShr .u64 x 32) * (iAnd .u64 y 4294967295))) + (iShr .u64 (IntKind.u64.wrap ((iAnd .u64 x 4294967295) * (iAnd .u64 y 4294967295))) 32))) 32))) + (iShr .u64 (IntKind.u64.wrap ((iAnd .u64 (IntKind.u64.wrap ((IntKind.u64.wrap ((iShr .u64 x 32) * (iAnd .u64 y 4294967295))) + (iShr .u64 (IntKind.u64.wrap ((iAnd .u64 x 4294967295) * (iAnd .u64 y 4294967295))) 32))) 4294967295) + (IntKind.u64.wrap ((iAnd .u64 x 4294967295) * (iShr .u64 y 32))))) 32))), (IntKind.u64.wrap (x * y))) := by rw [mul64F]
  exact ⟨by first | (rw [hr]; done) | (rw [hr]; rfl), hs.drop 0⟩
def mulF (x : Int) (y : Int) : Int × Int :=
  (((mul64F x y).1), ((mul64F x y).2))
theorem mulF_spec {w0 w : World} {L : List Asn} (x : Int) (y : Int) (hs : St w0 L w) : Calls Tryz.prog 76 #[.int .u64 x, .int .u64 y] w (Ret fun rv w' => rv = .tuple #[.int .u64 ((mulF x y).1), .int .u64 ((mulF x y).2)] ∧ St w0 L w') := by
  refine enter (args := [.int .u64 x, .int .u64 y]) Tryz.func76 rfl Tryz.ntmps76 (Nat.le_of_ble_eq_true (by kernel_rfl)) ?_
  refine GoC.slots (S' := [(0, .int .u64 x), (1, .int .u64 y)]) rfl ?_
  refine GoC.seq ?_
  refine Zqt (.rd 0 (.rd 1 .done)) ?_
  refine Zqk [(0, .gen []), (1, .gen [])] [] [(5, .int .u64 0), (4, .int .u64 0), (0, .int .u64 x), (1, .int .u64 y)] ak0 ?_
  refine GoR.done (GoQ.thn (GoC.seq (ZqF (GoC.skip (GoQ.thn (GoC.seq ?_))))))
  refine Zqt (.rd 0 (.rd 1 (.ef 2 (.rd 3 (.rd 4 (.rd 5 (.rd 6 (.rd 7 .done)))))))) ?_
  refine Zqk [(0, .gen []), (1, .gen [])] [] [(24, .int .u64 y), (23, .int .u64 x), (5, .int .u64 0), (4, .int .u64 0)] ak0 ?_
  refine Zqa (f := 119) (args := #[.int .u64 x, .int .u64 y]) Tryz.call119 (mul64F_spec x y  hs) ?_
  rintro v2 w3 ⟨rfl, hs1⟩
  refine ⟨Zqo, ?_⟩
  refine Zqk [(3, .gen []), (4, .gen []), (5, .gen []), (6, .gen []), (7, .gen [])] [] [(9, .int .u64 ((mul64F x y).2)), (8, .int .u64 ((mul64F x y).1)), (5, .int .u64 0), (4, .int .u64 0)] ak0 ?_
  refine GoR.done (GoQ.thn (GoC.seq ?_))
  refine Zqt (.rd 0 (.rd 1 (.rd 2 (.rd 3 .done)))) ?_
  refine Zqk [(0, .gen []), (1, .gen []), (2, .gen []), (3, .gen [])] [] [(5, .int .u64 ((mul64F x y).2)), (4, .int .u64 ((mul64F x y).1))] ak0 ?_
  refine GoR.done (GoQ.thn (GoC.ret ?_))
  refine Zq2 (v := .int .u64 ((mul64F x y).1)) (v' := .int .u64 ((mul64F x y).2)) ?_
  have hr : mulF x y = (((mul64F x y).1), ((mul64F x y).2)) := by rw [mulF]
  exact ⟨by first | (rw [hr]; done) | (rw [hr]; rfl), hs1.drop 0⟩
theorem mul_one {y : Int} (h : 0 ≤ y ∧ y ≤ 300) : mulF 1 y = (0, y) := by
  obtain ⟨k, rfl⟩ := Int.eq_ofNat_of_zero_le h.1
  have hk : k < 301 := by omega
  have key : (List.range 301).all (fun k => decide (mulF 1 ((k : Nat) : Int) = (0, ((k : Nat) : Int)))) = true := by kernel_rfl
  exact of_decide_eq_true (List.all_eq_true.1 key k (List.mem_range.2 hk))
theorem subHi {b un m size : Nat} (h : m < un) : Value.slice (if un = m then (some ⟨b, 0, none⟩) else ((some ⟨b, 0, none⟩) : Option Addr).map (fun a => a.add (m * size))) (un - m) (un - m) = vl b (m * size) (un - m) (un - m) := by
  rw [if_neg (by omega), Option.map_some, add_mk, Nat.zero_add]
theorem subLo {b un m size : Nat} : Value.slice (if un = 0 then (some ⟨b, 0, none⟩) else ((some ⟨b, 0, none⟩) : Option Addr).map (fun a => a.add (0 * size))) (m - 0) (un - 0) = vl b 0 m un := by
  have : (if un = 0 then (some ⟨b, 0, none⟩) else ((some ⟨b, 0, none⟩) : Option Addr).map (fun a => a.add (0 * size))) = some ⟨b, 0, none⟩ := by
    split
    · rfl
    · rw [Option.map_some, add_zero]
  rw [this]
  rfl
theorem rep_rows {w0 w : World} {L : List Asn} {b e m u : Nat} {x : SV} (hs : St w0 L w) (j : Nat) (hj : L[j]? = some (Cel b (arrCells SV.cells (List.replicate m x ++ List.replicate (u - m) dSV)) e)) : RowsAt w (some ⟨b, 0, none⟩) (List.replicate m x).length 107 (fun k => SV.cells ((List.replicate m x).getD k dSV)) := by
  have h := arr_rows hs j hj svF.size dSV
  have h2 := RowsAt.takeL h (List.replicate m x).length (by simp)
  rw [List.take_left' rfl] at h2
  exact h2
theorem repeat_spec {w0 w : World} {L : List Asn} {ad : Option Addr} {c : Nat} (x : SV) (un : Nat) (hu : un ≤ 300) (hs : St w0 ((Sl ad c 50 107 SV.cells ([x])) :: L) w) : Calls Tryz.prog 46 #[.slice ad 1 c, .int .i64 (un : Nat)] w (Ret fun rv w' => ∃ (ao : Option Addr) (co : Nat), rv = .slice ao ((List.replicate un x).length) co ∧ St w0 ((Rd ao 107 SV.cells dSV (List.replicate un x)) :: L) w') := by
  refine enter (args := [.slice ad 1 c, .int .i64 (un : Nat)]) Tryz.func46 rfl Tryz.ntmps46 (Nat.le_of_ble_eq_true (by kernel_rfl)) ?_
  refine GoC.slots (S' := [(0, .slice ad 1 c), (1, .int .i64 (un : Nat))]) rfl ?_
  refine GoC.seq ?_
  refine Zqt (.rd 0 .done) ?_
  refine Zqk [(0, .gen [])] [] [(4, .slice none 0 0), (0, .slice ad 1 c), (1, .int .i64 (un : Nat))] ak0 ?_
  refine GoR.done (GoQ.thn (GoC.seq (GoC.seq ?_)))
  refine Zqt (.rd 0 (.rd 1 .done)) ?_
  refine Zqk [(0, .gen []), (1, .gen [])] [] [(10, .bool (decide (((un : Nat) : Int) < 0))), (4, .slice none 0 0), (0, .slice ad 1 c), (1, .int .i64 (un : Nat))] ak0 ?_
  refine GoR.done (GoQ.thn ?_)
  refine Zqc (t := decide (((un : Nat) : Int) < 0)) (fun h1 => ?_) (fun h1 => ?_)
  · have h1' : ((un : Nat) : Int) < 0 := of_decide_eq_true h1
    exfalso; omega
  · have h1' : ¬ (((un : Nat) : Int) < 0) := of_decide_eq_false h1
    refine GoC.skip (GoQ.thn (GoC.seq ?_))
    refine Zqt (.rd 0 (.rd 1 (.rd 2 (.rd 3 (.rd 4 (.ef 5 (.rd 6 (.rd 7 (.rd 8 (.rd 9 (.rd 10 .done))))))))))) ?_
    refine Zqk [(0, .gen []), (1, .gen []), (2, .as_ (.int .u64 (1 : Nat)) (.gen [])), (3, .gen []), (4, .as_ (.int .u64 (un : Nat)) (.gen []))] [(2, [.prop (Value.int .u64 (IntKind.u64.wrap (1 : Nat)) = Value.int .u64 (1 : Nat))]), (4, [.prop (Value.int .u64 (IntKind.u64.wrap (un : Nat)) = Value.int .u64 (un : Nat))])] [(17, .int .u64 (un : Nat)), (15, .int .u64 (1 : Nat)), (4, .slice none 0 0), (0, .slice ad 1 c)] (ak (okp (u64ok (by omega) (by omega)) ok0) (ak (okp (u64ok (by omega) (by omega)) ok0) ak0)) ?_
    refine Zqa (f := 76) (args := #[.int .u64 (1 : Nat), .int .u64 (un : Nat)]) Tryz.call76 (mulF_spec (1 : Nat) (un : Nat)  hs) ?_
    rintro v4 w5 ⟨hmv, hs2⟩
    replace hmv := hmv.trans (show _ = Value.tuple #[.int .u64 (mulF 1 (un : Nat)).1, .int .u64 (mulF 1 (un : Nat)).2] from rfl)
    rw [mul_one (y := (un : Nat)) (by omega)] at hmv
    subst hmv
    refine ⟨Zqo, ?_⟩
    refine Zqk [(6, .gen []), (7, .gen []), (8, .gen []), (9, .gen []), (10, .gen [])] [] [(6, .int .u64 (un : Nat)), (5, .int .u64 0), (4, .slice none 0 0), (0, .slice ad 1 c)] ak0 ?_
    refine GoR.done (GoQ.thn (GoC.seq (GoC.seq ?_)))
    refine Zqt (.rd 0 (.rd 1 (.rd 2 (.rd 3 (.rd 4 (.rd 5 .done)))))) ?_
    refine Zqk [(0, .gen []), (1, .gen []), (2, .gen []), (3, .gen []), (4, .gen []), (5, .gen [])] [] [(26, .bool (decide (((un : Nat) : Int) > 9223372036854775807))), (6, .int .u64 (un : Nat)), (4, .slice none 0 0), (0, .slice ad 1 c)] ak0 ?_
    refine GoR.done (GoQ.thn ?_)
    refine Zqc (t := decide (((un : Nat) : Int) > 9223372036854775807)) (fun h6 => ?_) (fun h6 => ?_)
    · have h6' : ((un : Nat) : Int) > 9223372036854775807 := of_decide_eq_true h6
      exfalso
      have hx := h6
      simp only [Bool.or_eq_true, decide_eq_true_eq] at hx
      omega
    · have h6' : ¬ (((un : Nat) : Int) > 9223372036854775807) := of_decide_eq_false h6
      refine GoC.skip (GoQ.thn (GoC.seq ?_))
      refine Zqt (.rd 0 (.rd 1 (.ef 2 (.rd 3 .done)))) ?_
      refine Zqk [(0, .gen []), (1, .as_ (.int .i64 (un : Nat)) (.gen []))] [(1, [.prop (Value.int .i64 (IntKind.i64.wrap (un : Nat)) = Value.int .i64 (un : Nat))])] [(29, .int .i64 (un : Nat)), (4, .slice none 0 0), (0, .slice ad 1 c)] (ak (okp (i64ok (by omega) (by omega)) ok0) ak0) ?_
      refine GoR.makeSlice rfl (by kernel_rfl) (t := 26) (e := 50) (n := un) (by kernel_rfl) (by kernel_rfl) (ti := Tryz.t50) (by kernel_rfl) (z := svZ) (by kernel_rfl) (f := SV.cells) dSV (by kernel_rfl) (size := 107) (by kernel_rfl) svF (by decide) (by omega) (Nat.le_of_ble_eq_true (by kernel_rfl)) hs2 ?_
      intro b7 w8 hs9
      refine ⟨Zqo, ?_⟩
      refine Zqk [(3, .gen [])] [] [(7, vl b7 0 un un), (4, .slice none 0 0), (0, .slice ad 1 c)] ak0 ?_
      refine GoR.done (GoQ.thn (GoC.seq ?_))
      refine Zqt (.rd 0 (.rd 1 (.ef 2 (.rd 3 .done)))) ?_
      refine Zqk [(0, .gen []), (1, .gen [])] [] [(32, .slice ad 1 c), (31, vl b7 0 un un), (7, vl b7 0 un un), (4, .slice none 0 0)] ak0 ?_
      refine GoR.copyN rfl (by kernel_rfl) svsOK svF (b := b7) (off := 0) (dLen := un) (dCap := un) (ys := ([x])) (adx := ad) (cx := c) dSV rfl (by kernel_rfl) hs9 (hs9.rows 1 rfl svF.size dSV) (by rw [arr_size svF.size]; simp only [List.length_replicate, List.length_cons, List.length_nil, Nat.zero_add]; exact Nat.mul_le_mul_right _ (by omega)) (cs' := arrCells SV.cells (layL (List.replicate un dSV) 0 (([x]).take (min ([x]).length (un))))) (by show splice _ (0 * 107) _ = _; exact put_rows svF.size (by simp only [List.length_take, List.length_append, List.length_replicate, List.length_cons, List.length_nil]; omega)) ?_
      intro w12 hs13
      refine ⟨Zqo, ?_⟩
      refine Zqk [(3, .gen [])] [] [(8, .int .i64 ((min ([x]).length (un)) : Nat)), (7, vl b7 0 un un), (4, .slice none 0 0)] ak0 ?_
      refine GoR.done (GoQ.thn (GoC.seq (GoC.block ?_)))
      have hs15 : St w0 ((Sl ad c 50 107 SV.cells ([x])) :: (Cel b7 (arrCells SV.cells (layL (List.replicate un dSV) 0 (([x]).take (min ([x]).length (un))))) 50) :: L) w12 := ((hs13.pull 0 rfl).pull 1 rfl)
      have hs16 : St w0 ((Cel b7 (arrCells SV.cells (layL (List.replicate un dSV) 0 (([x]).take (min ([x]).length (un))))) 50) :: L) w12 := hs15.drop 1
      have hl0 : layL (List.replicate un dSV) 0 (([x]).take (min ([x]).length (un))) = List.replicate (min 1 un) x ++ List.replicate (un - (min 1 un)) dSV := by
        rcases Nat.eq_zero_or_pos un with hu0 | hu0
        · subst hu0; rfl
        · have h1 : min [x].length un = 1 := by simp only [List.length_cons, List.length_nil]; omega
          rw [h1]; obtain ⟨q, rfl⟩ : ∃ q, un = q + 1 := ⟨un - 1, by omega⟩; rfl
      rw [hl0] at hs16
      refine GoC.loop (T := Nat) (fun gg => [(4, .slice none 0 0), (7, vl b7 0 un un), (8, .int .i64 (gg : Nat))]) (fun gg w => (gg ≤ un ∧ (0 < un → 0 < gg)) ∧ St w0 ((Cel b7 (arrCells SV.cells (List.replicate gg x ++ List.replicate (un - gg) dSV)) 50) :: L) w) (fun gg => un - gg) (min 1 un) [4, 7, 8] (by kernel_rfl) ⟨⟨by omega, by omega⟩, hs16⟩ ?_
      rintro m1 w17 ⟨hp0, hs18⟩
      have hp : m1 ≤ un ∧ (0 < un → 0 < m1) := hp0
      have hs19 : St w0 ((Cel b7 (arrCells SV.cells (List.replicate m1 x ++ List.replicate (un - m1) dSV)) 50) :: L) w17 := hs18
      refine GoC.slots (S' := [(4, .slice none 0 0), (7, vl b7 0 un un), (8, .int .i64 (m1 : Nat))]) rfl ?_
      refine GoC.seq (GoC.seq ?_)
      refine Zqt (.rd 0 (.rd 1 (.rd 2 (.rd 3 .done)))) ?_
      refine Zqk [(0, .gen []), (1, .gen []), (2, .gen []), (3, .gen [])] [] [(37, .bool (decide (((m1 : Nat) : Int) < (un : Nat)))), (4, .slice none 0 0), (7, vl b7 0 un un), (8, .int .i64 (m1 : Nat))] ak0 ?_
      refine GoR.done (GoQ.thn ?_)
      refine Zqc (t := decide (((m1 : Nat) : Int) < (un : Nat))) (fun h20 => ?_) (fun h20 => ?_)
      · have h20' : ((m1 : Nat) : Int) < (un : Nat) := of_decide_eq_true h20
        refine GoC.skip (GoQ.thn (GoC.block ?_))
        refine GoC.regD [0, 0, 0, 6, 0, 0, 48, 126, 255, 511] (.rd 0 (.rd 1 (.rd 2 (.rd 3 (.rd 4 (.rd 5 (.rd 6 (.ef 7 (.rd 8 (.rd 9 .done)))))))))) (by kernel_rfl) (by kernel_rfl) noPan_body (by kernel_rfl) hs19 ?_
        intro w21 hs22 hw23
        refine Zqk [(0, .gen []), (1, .gen []), (2, .gen []), (3, .as_ (vl b7 (m1 * 107) (un - m1) (un - m1)) (.sub m1 un)), (4, .gen []), (5, .gen []), (6, .as_ (vl b7 0 m1 un) (.sub 0 m1))] [(3, [.prop (((m1 : Nat) : Int) = ((m1 : Nat) : Int)), .prop ((some (Operand.tmp 40) = none → (m1 : Nat) = 0) ∧ ((none : Option Operand) = none → (un : Nat) = un) ∧ (m1 : Nat) ≤ un ∧ (un : Nat) ≤ un), .prop (Value.slice (if un = m1 then (some ⟨b7, 0, none⟩) else ((some ⟨b7, 0, none⟩) : Option Addr).map (fun a => a.add (m1 * 107))) (un - m1) (un - m1) = Value.slice (some ⟨b7, m1 * 107, none⟩) (un - m1) (un - m1))]), (6, [.prop (((m1 : Nat) : Int) = ((m1 : Nat) : Int)), .prop (((none : Option Operand) = none → (0 : Nat) = 0) ∧ (some (Operand.tmp 43) = none → (m1 : Nat) = un) ∧ (0 : Nat) ≤ m1 ∧ (m1 : Nat) ≤ un), .prop (Value.slice (if un = 0 then (some ⟨b7, 0, none⟩) else ((some ⟨b7, 0, none⟩) : Option Addr).map (fun a => a.add (0 * 107))) (m1 - 0) (un - 0) = Value.slice (some ⟨b7, 0, none⟩) m1 un)])] [(44, vl b7 0 m1 un), (41, vl b7 (m1 * 107) (un - m1) (un - m1)), (38, .int .i64 (m1 : Nat)), (4, .slice none 0 0), (7, vl b7 0 un un), (8, .int .i64 (m1 : Nat))] (ak (okp (by omega) (okp ⟨(by first | (intro _; rfl) | (intro hc; cases hc)), (by first | (intro _; rfl) | (intro hc; cases hc)), (by omega), (by omega)⟩ (okp (subHi (by omega)) ok0))) (ak (okp (by omega) (okp ⟨(by first | (intro _; rfl) | (intro hc; cases hc)), (by first | (intro _; rfl) | (intro hc; cases hc)), (by omega), (by omega)⟩ (okp (subLo) ok0))) ak0)) ?_
        refine GoR.copyN rfl (by kernel_rfl) svsOK svF (b := b7) (off := m1 * 107) (dLen := un - m1) (dCap := un - m1) (ys := (List.replicate m1 x)) (adx := some ⟨b7, 0, none⟩) (cx := un) dSV (List.length_replicate ..).symm (by kernel_rfl) hs22 (rep_rows hs22 0 rfl) (by rw [arr_size svF.size]; simp only [List.length_append, List.length_replicate]; rw [← Nat.add_mul]; exact Nat.mul_le_mul_right _ (by omega)) (cs' := arrCells SV.cells (layL (List.replicate m1 x ++ List.replicate (un - m1) dSV) m1 ((List.replicate m1 x).take (min (List.replicate m1 x).length (un - m1))))) (by skip; exact put_rows svF.size (by simp only [List.length_take, List.length_append, List.length_replicate, List.length_cons, List.length_nil]; omega)) ?_
        intro w26 hs27
        refine ⟨Zqo, ?_⟩
        refine Zqk [(8, .as_ (.int .i64 ((m1 : Nat) + ((min (List.replicate m1 x).length (un - m1)) : Nat))) (.gen [])), (9, .gen [])] [(8, [.prop (Value.int .i64 (IntKind.i64.wrap ((m1 : Nat) + ((min (List.replicate m1 x).length (un - m1)) : Nat))) = Value.int .i64 ((m1 : Nat) + ((min (List.replicate m1 x).length (un - m1)) : Nat)))])] [(8, .int .i64 ((m1 : Nat) + ((min (List.replicate m1 x).length (un - m1)) : Nat))), (4, .slice none 0 0), (7, vl b7 0 un un)] (ak (okp (i64ok (by omega) (by omega)) ok0) ak0) ?_
        refine GoR.done (GoQ.blkN ?_)
        have hlr : (List.replicate m1 x).length = m1 := List.length_replicate ..
        have hl1 : layL (List.replicate m1 x ++ List.replicate (un - m1) dSV) m1 ((List.replicate m1 x).take (min (List.replicate m1 x).length (un - m1))) = List.replicate (m1 + (min (List.replicate m1 x).length (un - m1))) x ++ List.replicate (un - (m1 + (min (List.replicate m1 x).length (un - m1)))) dSV := by
          have h1 : (min (List.replicate m1 x).length (un - m1)) = min m1 (un - m1) := by rw [List.length_replicate]
          rw [h1, List.take_replicate, show min (min m1 (un - m1)) m1 = min m1 (un - m1) by omega]; exact lay_rep x dSV hp.1
        rw [hl1] at hs27
        exact GoQ.back (m1 + (min (List.replicate m1 x).length (un - m1))) [4, 7, 8] (by kernel_rfl) (by show un - (m1 + (min (List.replicate m1 x).length (un - m1))) < un - m1; omega) ⟨⟨by omega, by omega⟩, hs27⟩
      · have h20' : ¬ (((m1 : Nat) : Int) < (un : Nat)) := of_decide_eq_false h20
        refine GoC.exit (GoQ.skipC (GoQ.skipL (GoQ.hit (GoQ.thn (GoC.seq ?_)))))
        refine Zqt (.rd 0 (.rd 1 .done)) ?_
        refine Zqk [(0, .gen []), (1, .gen [])] [] [(4, vl b7 0 un un)] ak0 ?_
        refine GoR.done (GoQ.thn (GoC.ret ?_))
        refine Zq1 (v := vl b7 0 un un) ?_
        have hm1 : m1 = un := by omega
        subst hm1
        rw [Nat.sub_self, List.replicate_zero, List.append_nil] at hs19
        have hs29 : St w0 ((Rd (some ⟨b7, 0, none⟩) 107 SV.cells dSV (List.replicate m1 x)) :: L) w17 := St.rdArr svF dSV hs19
        exact ⟨some ⟨b7, 0, none⟩, m1, (by rw [List.length_replicate]), hs29⟩
theorem kind2_spec {w0 w : World} {L : List Asn} (m : Nat) (un : Int) (kd : Int) (A : Int) (N : Int) (hm : 3 ≤ m ∧ m ≤ 11) (hA : 0 ≤ A ∧ A ≤ 65535) (hw : 0 ≤ A % (m : Int) ∧ A % (m : Int) < 11) (hu : un ≤ 300) (hs : St w0 (L) w) : Calls Tryz.prog 39 #[.agg #[.int .i64 (m : Nat), .int .i64 un, .int .u8 kd, .int .u16 A, .int .i64 N]] w (Ret fun rv w' => ∃ (ao : Option Addr) (co : Nat), rv = .slice ao (([(⟨9, 0, 0, 0, 0⟩ : SV)]).length) co ∧ St w0 ((Rd ao 107 SV.cells dSV ([(⟨9, 0, 0, 0, 0⟩ : SV)])) :: L) w') := by
  refine enter (args := [.agg #[.int .i64 (m : Nat), .int .i64 un, .int .u8 kd, .int .u16 A, .int .i64 N]]) Tryz.func39 rfl Tryz.ntmps39 (Nat.le_of_ble_eq_true (by kernel_rfl)) ?_
  refine GoC.slots (S' := [(0, .agg #[.int .i64 (m : Nat), .int .i64 un, .int .u8 kd, .int .u16 A, .int .i64 N])]) rfl ?_
  refine GoC.seq ?_
  refine Zqt (.ef 0 (.rd 1 .done)) ?_
  refine GoR.box rfl rfl (by kernel_rfl) (v := .agg #[.int .i64 (m : Nat), .int .i64 un, .int .u8 kd, .int .u16 A, .int .i64 N]) (by kernel_rfl) hs (cs := #[.int .i64 (m : Nat), .int .i64 un, .int .u8 kd, .int .u16 A, .int .i64 N]) (by kernel_rfl) ?_
  intro b1 w2 hs3
  refine ⟨Zqo, ?_⟩
  refine Zqk [(1, .gen [])] [] [(2, .slice none 0 0)] ak0 ?_
  refine GoR.done (GoQ.thn (GoC.seq ?_))
  refine Zqt (.rd 0 (.ef 1 (.rd 2 .done))) ?_
  refine Zqk [(0, .gen [])] [] [(3, .agg (SV.cells (⟨9, 0, 0, 0, 0⟩ : SV))), (2, .slice none 0 0)] ak0 ?_
  refine Zqa (f := 40) (args := #[.agg (SV.cells (⟨9, 0, 0, 0, 0⟩ : SV))]) Tryz.call40 (one_spec (⟨9, 0, 0, 0, 0⟩ : SV) hs3) ?_
  rintro v7 w8 ⟨ao4, co5, rfl, hs6⟩
  refine ⟨Zqo, ?_⟩
  refine Zqk [(2, .gen [])] [] [(2, .slice ao4 1 co5)] ak0 ?_
  refine GoR.done (GoQ.thn (GoC.ret ?_))
  refine Zq1 (v := .slice ao4 1 co5) ?_
  have hs9 : St w0 ((Rd ao4 107 SV.cells dSV ([(⟨9, 0, 0, 0, 0⟩ : SV)])) :: (Cel b1 #[.int .i64 (m : Nat), .int .i64 un, .int .u8 kd, .int .u16 A, .int .i64 N] 73) :: L) w8 := St.rdSl svF dSV hs6
  have hs10 : St w0 ((Cel b1 #[.int .i64 (m : Nat), .int .i64 un, .int .u8 kd, .int .u16 A, .int .i64 N] 73) :: (Rd ao4 107 SV.cells dSV ([(⟨9, 0, 0, 0, 0⟩ : SV)])) :: L) w8 := ((hs9.pull 0 rfl).pull 1 rfl)
  have hs11 : St w0 ((Rd ao4 107 SV.cells dSV ([(⟨9, 0, 0, 0, 0⟩ : SV)])) :: L) w8 := hs10.drop 1
  exact ⟨ao4, co5, rfl, hs11⟩
theorem kind3_spec {w0 w : World} {L : List Asn} (m : Nat) (un : Int) (kd : Int) (A : Int) (N : Int) (hm : 3 ≤ m ∧ m ≤ 11) (hA : 0 ≤ A ∧ A ≤ 65535) (hw : 0 ≤ A % (m : Int) ∧ A % (m : Int) < 11) (hu : un ≤ 300) (hs : St w0 (L) w) : Calls Tryz.prog 41 #[.agg #[.int .i64 (m : Nat), .int .i64 un, .int .u8 kd, .int .u16 A, .int .i64 N]] w (Ret fun rv w' => ∃ (ao : Option Addr) (co : Nat), rv = .slice ao (([(⟨12, A % (m : Int) + 1, 0, 0, 0⟩ : SV)]).length) co ∧ St w0 ((Rd ao 107 SV.cells dSV ([(⟨12, A % (m : Int) + 1, 0, 0, 0⟩ : SV)])) :: L) w') := by
  refine enter (args := [.agg #[.int .i64 (m : Nat), .int .i64 un, .int .u8 kd, .int .u16 A, .int .i64 N]]) Tryz.func41 rfl Tryz.ntmps41 (Nat.le_of_ble_eq_true (by kernel_rfl)) ?_
  refine GoC.slots (S' := [(0, .agg #[.int .i64 (m : Nat), .int .i64 un, .int .u8 kd, .int .u16 A, .int .i64 N])]) rfl ?_
  refine GoC.seq ?_
  refine Zqt (.ef 0 (.rd 1 .done)) ?_
  refine GoR.box rfl rfl (by kernel_rfl) (v := .agg #[.int .i64 (m : Nat), .int .i64 un, .int .u8 kd, .int .u16 A, .int .i64 N]) (by kernel_rfl) hs (cs := #[.int .i64 (m : Nat), .int .i64 un, .int .u8 kd, .int .u16 A, .int .i64 N]) (by kernel_rfl) ?_
  intro b1 w2 hs3
  refine ⟨Zqo, ?_⟩
  refine Zqk [(1, .gen [])] [] [(2, .slice none 0 0), (1, vp b1 0)] ak0 ?_
  refine GoR.done (GoQ.thn (GoC.seq ?_))
  refine Zqt (.rd 0 (.ef 1 (.rd 2 (.ef 3 (.rd 4 .done))))) ?_
  refine Zqk [(0, .agg #[.int .i64 (m : Nat), .int .i64 un, .int .u8 kd, .int .u16 A, .int .i64 N])] [(0, [.prop (Array.size (#[.int .i64 (m : Nat), .int .i64 un, .int .u8 kd, .int .u16 A, .int .i64 N] : Array Value) = 5), .cells ⟨b1, 0, none⟩ #[.int .i64 (m : Nat), .int .i64 un, .int .u8 kd, .int .u16 A, .int .i64 N]])] [(3, .agg #[.int .i64 (m : Nat), .int .i64 un, .int .u8 kd, .int .u16 A, .int .i64 N]), (2, .slice none 0 0)] (ak (okp (by kernel_rfl) (oka (hs3.cells 0 0 rfl (by kernel_rfl)) ok0)) ak0) ?_
  refine Zqa (f := 42) (args := #[.agg #[.int .i64 (m : Nat), .int .i64 un, .int .u8 kd, .int .u16 A, .int .i64 N]]) Tryz.call42 (who_spec m un kd A N (by first | assumption | omega) (by first | assumption | omega) (by first | assumption | exact ⟨Int.emod_nonneg _ (by omega), Int.lt_of_lt_of_le (Int.emod_lt_of_pos _ (by omega)) (by omega)⟩) (by first | assumption | omega) hs3) ?_
  rintro v5 w6 ⟨rfl, hs4⟩
  refine ⟨Zqo, ?_⟩
  refine Zqk [(2, .gen [])] [] [(5, .agg (SV.cells (⟨12, 1 + A % (m : Nat), 0, 0, 0⟩ : SV))), (2, .slice none 0 0)] ak0 ?_
  refine Zqa (f := 40) (args := #[.agg (SV.cells (⟨12, 1 + A % (m : Nat), 0, 0, 0⟩ : SV))]) Tryz.call40 (one_spec (⟨12, 1 + A % (m : Nat), 0, 0, 0⟩ : SV) hs4) ?_
  rintro v10 w11 ⟨ao7, co8, rfl, hs9⟩
  refine ⟨Zqo, ?_⟩
  refine Zqk [(4, .gen [])] [] [(2, .slice ao7 1 co8)] ak0 ?_
  refine GoR.done (GoQ.thn (GoC.ret ?_))
  refine Zq1 (v := .slice ao7 1 co8) ?_
  have hs12 : St w0 ((Cel b1 #[.int .i64 (m : Nat), .int .i64 un, .int .u8 kd, .int .u16 A, .int .i64 N] 73) :: (Sl ao7 co8 50 107 SV.cells ([(⟨12, 1 + A % (m : Nat), 0, 0, 0⟩ : SV)])) :: L) w11 := ((hs9.pull 0 rfl).pull 1 rfl)
  have hs13 : St w0 ((Sl ao7 co8 50 107 SV.cells ([(⟨12, 1 + A % (m : Nat), 0, 0, 0⟩ : SV)])) :: L) w11 := hs12.drop 1
  rw [show 1 + A % (m : Int) = A % (m : Int) + 1 from Int.add_comm _ _] at hs13
  have hs14 : St w0 ((Rd ao7 107 SV.cells dSV ([(⟨12, A % (m : Int) + 1, 0, 0, 0⟩ : SV)])) :: L) w11 := St.rdSl svF dSV hs13
  exact ⟨ao7, co8, rfl, hs14⟩
theorem kind4_spec {w0 w : World} {L : List Asn} (m : Nat) (un : Int) (kd : Int) (A : Int) (N : Int) (hm : 3 ≤ m ∧ m ≤ 11) (hA : 0 ≤ A ∧ A ≤ 65535) (hw : 0 ≤ A % (m : Int) ∧ A % (m : Int) < 11) (hu : un ≤ 300) (hs : St w0 (L) w) : Calls Tryz.prog 43 #[.agg #[.int .i64 (m : Nat), .int .i64 un, .int .u8 kd, .int .u16 A, .int .i64 N]] w (Ret fun rv w' => ∃ (ao : Option Addr) (co : Nat), rv = .slice ao (([(⟨13, A % (m : Int) + 1, 0, 0, 0⟩ : SV)]).length) co ∧ St w0 ((Rd ao 107 SV.cells dSV ([(⟨13, A % (m : Int) + 1, 0, 0, 0⟩ : SV)])) :: L) w') := by
  refine enter (args := [.agg #[.int .i64 (m : Nat), .int .i64 un, .int .u8 kd, .int .u16 A, .int .i64 N]]) Tryz.func43 rfl Tryz.ntmps43 (Nat.le_of_ble_eq_true (by kernel_rfl)) ?_
  refine GoC.slots (S' := [(0, .agg #[.int .i64 (m : Nat), .int .i64 un, .int .u8 kd, .int .u16 A, .int .i64 N])]) rfl ?_
  refine GoC.seq ?_
  refine Zqt (.ef 0 (.rd 1 .done)) ?_
  refine GoR.box rfl rfl (by kernel_rfl) (v := .agg #[.int .i64 (m : Nat), .int .i64 un, .int .u8 kd, .int .u16 A, .int .i64 N]) (by kernel_rfl) hs (cs := #[.int .i64 (m : Nat), .int .i64 un, .int .u8 kd, .int .u16 A, .int .i64 N]) (by kernel_rfl) ?_
  intro b1 w2 hs3
  refine ⟨Zqo, ?_⟩
  refine Zqk [(1, .gen [])] [] [(2, .slice none 0 0), (1, vp b1 0)] ak0 ?_
  refine GoR.done (GoQ.thn (GoC.seq ?_))
  refine Zqt (.rd 0 (.ef 1 (.rd 2 (.ef 3 (.rd 4 .done))))) ?_
  refine Zqk [(0, .agg #[.int .i64 (m : Nat), .int .i64 un, .int .u8 kd, .int .u16 A, .int .i64 N])] [(0, [.prop (Array.size (#[.int .i64 (m : Nat), .int .i64 un, .int .u8 kd, .int .u16 A, .int .i64 N] : Array Value) = 5), .cells ⟨b1, 0, none⟩ #[.int .i64 (m : Nat), .int .i64 un, .int .u8 kd, .int .u16 A, .int .i64 N]])] [(3, .agg #[.int .i64 (m : Nat), .int .i64 un, .int .u8 kd, .int .u16 A, .int .i64 N]), (2, .slice none 0 0)] (ak (okp (by kernel_rfl) (oka (hs3.cells 0 0 rfl (by kernel_rfl)) ok0)) ak0) ?_
  refine Zqa (f := 42) (args := #[.agg #[.int .i64 (m : Nat), .int .i64 un, .int .u8 kd, .int .u16 A, .int .i64 N]]) Tryz.call42 (who_spec m un kd A N (by first | assumption | omega) (by first | assumption | omega) (by first | assumption | exact ⟨Int.emod_nonneg _ (by omega), Int.lt_of_lt_of_le (Int.emod_lt_of_pos _ (by omega)) (by omega)⟩) (by first | assumption | omega) hs3) ?_
  rintro v5 w6 ⟨rfl, hs4⟩
  refine ⟨Zqo, ?_⟩
  refine Zqk [(2, .gen [])] [] [(5, .agg (SV.cells (⟨13, 1 + A % (m : Nat), 0, 0, 0⟩ : SV))), (2, .slice none 0 0)] ak0 ?_
  refine Zqa (f := 40) (args := #[.agg (SV.cells (⟨13, 1 + A % (m : Nat), 0, 0, 0⟩ : SV))]) Tryz.call40 (one_spec (⟨13, 1 + A % (m : Nat), 0, 0, 0⟩ : SV) hs4) ?_
  rintro v10 w11 ⟨ao7, co8, rfl, hs9⟩
  refine ⟨Zqo, ?_⟩
  refine Zqk [(4, .gen [])] [] [(2, .slice ao7 1 co8)] ak0 ?_
  refine GoR.done (GoQ.thn (GoC.ret ?_))
  refine Zq1 (v := .slice ao7 1 co8) ?_
  have hs12 : St w0 ((Cel b1 #[.int .i64 (m : Nat), .int .i64 un, .int .u8 kd, .int .u16 A, .int .i64 N] 73) :: (Sl ao7 co8 50 107 SV.cells ([(⟨13, 1 + A % (m : Nat), 0, 0, 0⟩ : SV)])) :: L) w11 := ((hs9.pull 0 rfl).pull 1 rfl)
  have hs13 : St w0 ((Sl ao7 co8 50 107 SV.cells ([(⟨13, 1 + A % (m : Nat), 0, 0, 0⟩ : SV)])) :: L) w11 := hs12.drop 1
  rw [show 1 + A % (m : Int) = A % (m : Int) + 1 from Int.add_comm _ _] at hs13
  have hs14 : St w0 ((Rd ao7 107 SV.cells dSV ([(⟨13, A % (m : Int) + 1, 0, 0, 0⟩ : SV)])) :: L) w11 := St.rdSl svF dSV hs13
  exact ⟨ao7, co8, rfl, hs14⟩
theorem kind5_spec {w0 w : World} {L : List Asn} (m : Nat) (un : Int) (kd : Int) (A : Int) (N : Int) (hm : 3 ≤ m ∧ m ≤ 11) (hA : 0 ≤ A ∧ A ≤ 65535) (hw : 0 ≤ A % (m : Int) ∧ A % (m : Int) < 11) (hu : un ≤ 300) (hs : St w0 (L) w) : Calls Tryz.prog 44 #[.agg #[.int .i64 (m : Nat), .int .i64 un, .int .u8 kd, .int .u16 A, .int .i64 N]] w (Ret fun rv w' => ∃ (ao : Option Addr) (co : Nat), rv = .slice ao (([(⟨11, A % (m : Int) + 1, 0, 0, N⟩ : SV)]).length) co ∧ St w0 ((Rd ao 107 SV.cells dSV ([(⟨11, A % (m : Int) + 1, 0, 0, N⟩ : SV)])) :: L) w') := by
  refine enter (args := [.agg #[.int .i64 (m : Nat), .int .i64 un, .int .u8 kd, .int .u16 A, .int .i64 N]]) Tryz.func44 rfl Tryz.ntmps44 (Nat.le_of_ble_eq_true (by kernel_rfl)) ?_
  refine GoC.slots (S' := [(0, .agg #[.int .i64 (m : Nat), .int .i64 un, .int .u8 kd, .int .u16 A, .int .i64 N])]) rfl ?_
  refine GoC.seq ?_
  refine Zqt (.ef 0 (.rd 1 .done)) ?_
  refine GoR.box rfl rfl (by kernel_rfl) (v := .agg #[.int .i64 (m : Nat), .int .i64 un, .int .u8 kd, .int .u16 A, .int .i64 N]) (by kernel_rfl) hs (cs := #[.int .i64 (m : Nat), .int .i64 un, .int .u8 kd, .int .u16 A, .int .i64 N]) (by kernel_rfl) ?_
  intro b1 w2 hs3
  refine ⟨Zqo, ?_⟩
  refine Zqk [(1, .gen [])] [] [(2, .slice none 0 0), (1, vp b1 0)] ak0 ?_
  refine GoR.done (GoQ.thn (GoC.seq ?_))
  refine GoC.regD [0, 1, 0, 4, 12, 31, 63, 127] (.rd 0 (.rd 2 (.rd 3 (.rd 4 (.ef 1 (.rd 5 (.ef 6 (.rd 7 .done)))))))) (by kernel_rfl) (by kernel_rfl) noPan_body (by kernel_rfl) hs3 ?_
  intro w4 hs5 hw6
  refine Zqk [(0, .agg #[.int .i64 (m : Nat), .int .i64 un, .int .u8 kd, .int .u16 A, .int .i64 N]), (2, .gen []), (3, .gen []), (4, .gen [.int .i64 N])] [(0, [.prop (Array.size (#[.int .i64 (m : Nat), .int .i64 un, .int .u8 kd, .int .u16 A, .int .i64 N] : Array Value) = 5), .cells ⟨b1, 0, none⟩ #[.int .i64 (m : Nat), .int .i64 un, .int .u8 kd, .int .u16 A, .int .i64 N]]), (4, [.cell ⟨b1, 4, none⟩ (.int .i64 N)])] [(7, .int .i64 N), (3, .agg #[.int .i64 (m : Nat), .int .i64 un, .int .u8 kd, .int .u16 A, .int .i64 N]), (2, .slice none 0 0)] (ak (okp (by kernel_rfl) (oka (hs5.cells 0 0 rfl (by kernel_rfl)) ok0)) (ak (okc (hs5.cell 0 rfl (by kernel_rfl)) ok0) ak0)) ?_
  refine Zqa (f := 42) (args := #[.agg #[.int .i64 (m : Nat), .int .i64 un, .int .u8 kd, .int .u16 A, .int .i64 N]]) Tryz.call42 (who_spec m un kd A N (by first | assumption | omega) (by first | assumption | omega) (by first | assumption | exact ⟨Int.emod_nonneg _ (by omega), Int.lt_of_lt_of_le (Int.emod_lt_of_pos _ (by omega)) (by omega)⟩) (by first | assumption | omega) hs5) ?_
  rintro v8 w9 ⟨rfl, hs7⟩
  refine ⟨(opl (n := [.cell ⟨b1, 4, none⟩ (.int .i64 N)]) (by kernel_rfl) (okc (hs7.cell 0 rfl (by kernel_rfl)) ok0)), ?_⟩
  refine Zqk [(5, .gen [])] [] [(8, .agg (SV.cells (⟨11, 1 + A % (m : Nat), 0, 0, N⟩ : SV))), (2, .slice none 0 0)] ak0 ?_
  refine Zqa (f := 40) (args := #[.agg (SV.cells (⟨11, 1 + A % (m : Nat), 0, 0, N⟩ : SV))]) Tryz.call40 (one_spec (⟨11, 1 + A % (m : Nat), 0, 0, N⟩ : SV) hs7) ?_
  rintro v13 w14 ⟨ao10, co11, rfl, hs12⟩
  refine ⟨Zqo, ?_⟩
  refine Zqk [(7, .gen [])] [] [(2, .slice ao10 1 co11)] ak0 ?_
  refine GoR.done (GoQ.thn (GoC.ret ?_))
  refine Zq1 (v := .slice ao10 1 co11) ?_
  have hs15 : St w0 ((Cel b1 #[.int .i64 (m : Nat), .int .i64 un, .int .u8 kd, .int .u16 A, .int .i64 N] 73) :: (Sl ao10 co11 50 107 SV.cells ([(⟨11, 1 + A % (m : Nat), 0, 0, N⟩ : SV)])) :: L) w14 := ((hs12.pull 0 rfl).pull 1 rfl)
  have hs16 : St w0 ((Sl ao10 co11 50 107 SV.cells ([(⟨11, 1 + A % (m : Nat), 0, 0, N⟩ : SV)])) :: L) w14 := hs15.drop 1
  rw [show 1 + A % (m : Int) = A % (m : Int) + 1 from Int.add_comm _ _] at hs16
  have hs17 : St w0 ((Rd ao10 107 SV.cells dSV ([(⟨11, A % (m : Int) + 1, 0, 0, N⟩ : SV)])) :: L) w14 := St.rdSl svF dSV hs16
  exact ⟨ao10, co11, rfl, hs17⟩
theorem kind8_spec {w0 w : World} {L : List Asn} (m : Nat) (un : Int) (kd : Int) (A : Int) (N : Int) (hm : 3 ≤ m ∧ m ≤ 11) (hA : 0 ≤ A ∧ A ≤ 65535) (hw : 0 ≤ A % (m : Int) ∧ A % (m : Int) < 11) (hu : un ≤ 300) (hs : St w0 (L) w) : Calls Tryz.prog 48 #[.agg #[.int .i64 (m : Nat), .int .i64 un, .int .u8 kd, .int .u16 A, .int .i64 N]] w (Ret fun rv w' => ∃ (ao : Option Addr) (co : Nat), rv = .slice ao (([(⟨10, 0, 0, 0, N⟩ : SV)]).length) co ∧ St w0 ((Rd ao 107 SV.cells dSV ([(⟨10, 0, 0, 0, N⟩ : SV)])) :: L) w') := by
  refine enter (args := [.agg #[.int .i64 (m : Nat), .int .i64 un, .int .u8 kd, .int .u16 A, .int .i64 N]]) Tryz.func48 rfl Tryz.ntmps48 (Nat.le_of_ble_eq_true (by kernel_rfl)) ?_
  refine GoC.slots (S' := [(0, .agg #[.int .i64 (m : Nat), .int .i64 un, .int .u8 kd, .int .u16 A, .int .i64 N])]) rfl ?_
  refine GoC.seq ?_
  refine Zqt (.ef 0 (.rd 1 .done)) ?_
  refine GoR.box rfl rfl (by kernel_rfl) (v := .agg #[.int .i64 (m : Nat), .int .i64 un, .int .u8 kd, .int .u16 A, .int .i64 N]) (by kernel_rfl) hs (cs := #[.int .i64 (m : Nat), .int .i64 un, .int .u8 kd, .int .u16 A, .int .i64 N]) (by kernel_rfl) ?_
  intro b1 w2 hs3
  refine ⟨Zqo, ?_⟩
  refine Zqk [(1, .gen [])] [] [(2, .slice none 0 0), (1, vp b1 0)] ak0 ?_
  refine GoR.done (GoQ.thn (GoC.seq ?_))
  refine Zqt (.rd 0 (.rd 1 (.rd 2 (.rd 3 (.ef 4 (.rd 5 .done)))))) ?_
  refine Zqk [(0, .gen []), (1, .gen []), (2, .gen [.int .i64 N]), (3, .gen [])] [(2, [.cell ⟨b1, 4, none⟩ (.int .i64 N)])] [(6, .agg (SV.cells (⟨10, 0, 0, 0, N⟩ : SV))), (2, .slice none 0 0)] (ak (okc (hs3.cell 0 rfl (by kernel_rfl)) ok0) ak0) ?_
  refine Zqa (f := 40) (args := #[.agg (SV.cells (⟨10, 0, 0, 0, N⟩ : SV))]) Tryz.call40 (one_spec (⟨10, 0, 0, 0, N⟩ : SV) hs3) ?_
  rintro v7 w8 ⟨ao4, co5, rfl, hs6⟩
  refine ⟨Zqo, ?_⟩
  refine Zqk [(5, .gen [])] [] [(2, .slice ao4 1 co5)] ak0 ?_
  refine GoR.done (GoQ.thn (GoC.ret ?_))
  refine Zq1 (v := .slice ao4 1 co5) ?_
  have hs9 : St w0 ((Rd ao4 107 SV.cells dSV ([(⟨10, 0, 0, 0, N⟩ : SV)])) :: (Cel b1 #[.int .i64 (m : Nat), .int .i64 un, .int .u8 kd, .int .u16 A, .int .i64 N] 73) :: L) w8 := St.rdSl svF dSV hs6
  have hs10 : St w0 ((Cel b1 #[.int .i64 (m : Nat), .int .i64 un, .int .u8 kd, .int .u16 A, .int .i64 N] 73) :: (Rd ao4 107 SV.cells dSV ([(⟨10, 0, 0, 0, N⟩ : SV)])) :: L) w8 := ((hs9.pull 0 rfl).pull 1 rfl)
  have hs11 : St w0 ((Rd ao4 107 SV.cells dSV ([(⟨10, 0, 0, 0, N⟩ : SV)])) :: L) w8 := hs10.drop 1
  exact ⟨ao4, co5, rfl, hs11⟩
theorem kind6_spec {w0 w : World} {L : List Asn} (m : Nat) (un : Int) (kd : Int) (A : Int) (N : Int) (hm : 3 ≤ m ∧ m ≤ 11) (hA : 0 ≤ A ∧ A ≤ 65535) (hw : 0 ≤ A % (m : Int) ∧ A % (m : Int) < 11) (hu : un ≤ 300) (hs : St w0 (L) w) : Calls Tryz.prog 45 #[.agg #[.int .i64 (m : Nat), .int .i64 un, .int .u8 kd, .int .u16 A, .int .i64 N]] w (Ret fun rv w' => ∃ (ao : Option Addr) (co : Nat), rv = .slice ao ((loseL un.toNat).length) co ∧ St w0 ((Rd ao 107 SV.cells dSV (loseL un.toNat)) :: L) w') := by
  refine enter (args := [.agg #[.int .i64 (m : Nat), .int .i64 un, .int .u8 kd, .int .u16 A, .int .i64 N]]) Tryz.func45 rfl Tryz.ntmps45 (Nat.le_of_ble_eq_true (by kernel_rfl)) ?_
  refine GoC.slots (S' := [(0, .agg #[.int .i64 (m : Nat), .int .i64 un, .int .u8 kd, .int .u16 A, .int .i64 N])]) rfl ?_
  refine GoC.seq ?_
  refine Zqt (.ef 0 (.rd 1 .done)) ?_
  refine GoR.box rfl rfl (by kernel_rfl) (v := .agg #[.int .i64 (m : Nat), .int .i64 un, .int .u8 kd, .int .u16 A, .int .i64 N]) (by kernel_rfl) hs (cs := #[.int .i64 (m : Nat), .int .i64 un, .int .u8 kd, .int .u16 A, .int .i64 N]) (by kernel_rfl) ?_
  intro b1 w2 hs3
  refine ⟨Zqo, ?_⟩
  refine Zqk [(1, .gen [])] [] [(2, .slice none 0 0), (1, vp b1 0)] ak0 ?_
  refine GoR.done (GoQ.thn (GoC.seq ?_))
  refine GoC.regD [0, 1, 0, 4, 12, 31, 63] (.rd 0 (.rd 2 (.rd 3 (.rd 4 (.ef 1 (.ef 5 (.rd 6 .done))))))) (by kernel_rfl) (by kernel_rfl) noPan_body (by kernel_rfl) hs3 ?_
  intro w4 hs5 hw6
  refine Zqk [(0, .gen []), (2, .gen []), (3, .gen [.int .i64 un]), (4, .as_ (.int .i64 (un.toNat : Nat)) (.gen []))] [(3, [.cell ⟨b1, 1, none⟩ (.int .i64 un)]), (4, [.prop (Value.int .i64 (if 0 > un then 0 else un) = Value.int .i64 (un.toNat : Nat))])] [(7, .int .i64 (un.toNat : Nat)), (3, .agg (SV.cells (⟨6, 0, 0, 0, 0⟩ : SV))), (2, .slice none 0 0)] (ak (okc (hs5.cell 0 rfl (by kernel_rfl)) ok0) (ak (okp maxnat ok0) ak0)) ?_
  refine Zqa (f := 40) (args := #[.agg (SV.cells (⟨6, 0, 0, 0, 0⟩ : SV))]) Tryz.call40 (one_spec (⟨6, 0, 0, 0, 0⟩ : SV) hs5) ?_
  rintro v10 w11 ⟨ao7, co8, rfl, hs9⟩
  refine ⟨(opl (n := [.prop (Value.int .i64 (if 0 > un then 0 else un) = Value.int .i64 (un.toNat : Nat)), .cell ⟨b1, 1, none⟩ (.int .i64 un)]) (by kernel_rfl) (okp maxnat (okc (hs9.cell 1 rfl (by kernel_rfl)) ok0))), ?_⟩
  refine Zqa (f := 46) (args := #[.slice ao7 1 co8, .int .i64 (un.toNat : Nat)]) Tryz.call46 (repeat_spec (⟨6, 0, 0, 0, 0⟩ : SV) un.toNat (by first | assumption | omega) hs9) ?_
  rintro v15 w16 ⟨ao12, co13, rfl, hs14⟩
  refine ⟨Zqo, ?_⟩
  refine Zqk [(6, .gen [])] [] [(2, .slice ao12 ((List.replicate un.toNat (⟨6, 0, 0, 0, 0⟩ : SV)).length) co13)] ak0 ?_
  refine GoR.done (GoQ.thn (GoC.ret ?_))
  refine Zq1 (v := .slice ao12 ((List.replicate un.toNat (⟨6, 0, 0, 0, 0⟩ : SV)).length) co13) ?_
  have hs17 : St w0 ((Cel b1 #[.int .i64 (m : Nat), .int .i64 un, .int .u8 kd, .int .u16 A, .int .i64 N] 73) :: (Rd ao12 107 SV.cells dSV (List.replicate un.toNat (⟨6, 0, 0, 0, 0⟩ : SV))) :: L) w16 := ((hs14.pull 0 rfl).pull 1 rfl)
  have hs18 : St w0 ((Rd ao12 107 SV.cells dSV (List.replicate un.toNat (⟨6, 0, 0, 0, 0⟩ : SV))) :: L) w16 := hs17.drop 1
  exact ⟨ao12, co13, rfl, hs18⟩
theorem kind7_spec {w0 w : World} {L : List Asn} (m : Nat) (un : Int) (kd : Int) (A : Int) (N : Int) (hm : 3 ≤ m ∧ m ≤ 11) (hA : 0 ≤ A ∧ A ≤ 65535) (hw : 0 ≤ A % (m : Int) ∧ A % (m : Int) < 11) (hu : un ≤ 300) (hs : St w0 (L) w) : Calls Tryz.prog 47 #[.agg #[.int .i64 (m : Nat), .int .i64 un, .int .u8 kd, .int .u16 A, .int .i64 N]] w (Ret fun rv w' => ∃ (ao : Option Addr) (co : Nat), rv = .slice ao ((twiceL un.toNat).length) co ∧ St w0 ((Rd ao 107 SV.cells dSV (twiceL un.toNat)) :: L) w') := by
  refine enter (args := [.agg #[.int .i64 (m : Nat), .int .i64 un, .int .u8 kd, .int .u16 A, .int .i64 N]]) Tryz.func47 rfl Tryz.ntmps47 (Nat.le_of_ble_eq_true (by kernel_rfl)) ?_
  refine GoC.slots (S' := [(0, .agg #[.int .i64 (m : Nat), .int .i64 un, .int .u8 kd, .int .u16 A, .int .i64 N])]) rfl ?_
  refine GoC.seq ?_
  refine Zqt (.ef 0 (.rd 1 .done)) ?_
  refine GoR.box rfl rfl (by kernel_rfl) (v := .agg #[.int .i64 (m : Nat), .int .i64 un, .int .u8 kd, .int .u16 A, .int .i64 N]) (by kernel_rfl) hs (cs := #[.int .i64 (m : Nat), .int .i64 un, .int .u8 kd, .int .u16 A, .int .i64 N]) (by kernel_rfl) ?_
  intro b1 w2 hs3
  refine ⟨Zqo, ?_⟩
  refine Zqk [(1, .gen [])] [] [(2, .slice none 0 0), (1, vp b1 0)] ak0 ?_
  refine GoR.done (GoQ.thn (GoC.seq (GoC.seq ?_)))
  refine Zqt (.rd 0 (.rd 1 (.rd 2 (.rd 3 .done)))) ?_
  refine Zqk [(0, .gen []), (1, .gen [.int .i64 un]), (2, .as_ (.int .i64 (un.toNat : Nat)) (.gen [])), (3, .gen [])] [(1, [.cell ⟨b1, 1, none⟩ (.int .i64 un)]), (2, [.prop (Value.int .i64 (if 0 > un then 0 else un) = Value.int .i64 (un.toNat : Nat))])] [(7, .int .i64 0), (6, .int .i64 (un.toNat : Nat)), (2, .slice none 0 0)] (ak (okc (hs3.cell 0 rfl (by kernel_rfl)) ok0) (ak (okp maxnat ok0) ak0)) ?_
  refine GoR.done (GoQ.thn (GoC.block ?_))
  have hs4 : St w0 ((Sl none 0 50 107 SV.cells ([] : List SV)) :: (Cel b1 #[.int .i64 (m : Nat), .int .i64 un, .int .u8 kd, .int .u16 A, .int .i64 N] 73) :: L) w2 := St.slNil hs3 50 107 SV.cells
  refine GoC.loop (T := Nat × (List SV) × (Option Addr) × Nat) (fun gg => [(2, .slice gg.2.2.1 gg.2.1.length gg.2.2.2), (6, .int .i64 (un.toNat : Nat)), (7, .int .i64 (gg.1 : Nat))]) (fun gg w => (gg.2.1 = twiceL gg.1 ∧ gg.2.1.length = gg.1 ∧ gg.1 ≤ un.toNat) ∧ St w0 ((Sl gg.2.2.1 gg.2.2.2 50 107 SV.cells gg.2.1) :: (Cel b1 #[.int .i64 (m : Nat), .int .i64 un, .int .u8 kd, .int .u16 A, .int .i64 N] 73) :: L) w) (fun gg => un.toNat - gg.1) (0, ([] : List SV), none, 0) [2, 6, 7] (by kernel_rfl) ⟨⟨rfl, rfl, Nat.zero_le _⟩, hs4⟩ ?_
  rintro ⟨k, q, adq, cq⟩ w5 ⟨hp0, hs6⟩
  have hp : q = twiceL k ∧ q.length = k ∧ k ≤ un.toNat := hp0
  have hs7 : St w0 ((Sl adq cq 50 107 SV.cells q) :: (Cel b1 #[.int .i64 (m : Nat), .int .i64 un, .int .u8 kd, .int .u16 A, .int .i64 N] 73) :: L) w5 := hs6
  refine GoC.slots (S' := [(2, .slice adq q.length cq), (6, .int .i64 (un.toNat : Nat)), (7, .int .i64 (k : Nat))]) rfl ?_
  refine GoC.seq ?_
  refine Zqt (.rd 0 .done) ?_
  refine Zqk [(0, .gen [])] [] [(8, .bool (decide (((k : Nat) : Int) < (un.toNat : Nat)))), (2, .slice adq q.length cq), (6, .int .i64 (un.toNat : Nat)), (7, .int .i64 (k : Nat))] ak0 ?_
  refine GoR.done (GoQ.thn (GoC.seq ?_))
  refine Zqc (t := decide (((k : Nat) : Int) < (un.toNat : Nat))) (fun h8 => ?_) (fun h8 => ?_)
  · have h8' : ((k : Nat) : Int) < (un.toNat : Nat) := of_decide_eq_true h8
    refine GoC.skip (GoQ.thn (GoC.seq (GoC.block (GoC.seq ?_))))
    refine Zqt (.rd 0 (.rd 1 .done)) ?_
    refine Zqk [(0, .gen []), (1, .gen [])] [] [(3, .int .i64 (k : Nat)), (2, .slice adq q.length cq), (6, .int .i64 (un.toNat : Nat)), (7, .int .i64 (k : Nat))] ak0 ?_
    refine GoR.done (GoQ.thn ?_)
    refine Zqt (.rd 0 (.rd 1 (.rd 2 (.ef 3 (.ef 4 (.rd 5 .done)))))) ?_
    refine Zqk [(0, .gen []), (1, .gen []), (2, .gen [])] [] [(12, .agg (SV.cells (⟨7, 0, 0, (k : Nat), 0⟩ : SV))), (10, .slice adq q.length cq), (2, .slice adq q.length cq), (6, .int .i64 (un.toNat : Nat)), (7, .int .i64 (k : Nat))] ak0 ?_
    refine GoR.sliceLit rfl (by kernel_rfl) (t := 26) (e := 50) (n := 1) (ps := [(0, .agg (SV.cells (⟨7, 0, 0, (k : Nat), 0⟩ : SV)))]) (by kernel_rfl) (by kernel_rfl) (ti := Tryz.t50) (z := svZ) (by kernel_rfl) (by kernel_rfl) (by decide) (by decide) (cs := SV.cells (⟨7, 0, 0, (k : Nat), 0⟩ : SV)) (by kernel_rfl) hs7 ?_
    intro b9 w10 hs11 hz12
    have hs13 : St w0 ((Sl (some ⟨b9, 0, none⟩) 1 50 107 SV.cells ([((⟨7, 0, 0, (k : Nat), 0⟩ : SV) : SV)])) :: (Sl adq cq 50 107 SV.cells q) :: (Cel b1 #[.int .i64 (m : Nat), .int .i64 un, .int .u8 kd, .int .u16 A, .int .i64 N] 73) :: L) w10 := St.slOf (l := [((⟨7, 0, 0, (k : Nat), 0⟩ : SV) : SV)]) (f := SV.cells) hs11 hz12 (svF).size (by simp only [List.length_cons, List.length_nil, maxLen]; omega) (by kernel_rfl)
    refine ⟨Zqo, ?_⟩
    have hs16 : St w0 ((Sl adq cq 50 107 SV.cells q) :: (Sl (some ⟨b9, 0, none⟩) 1 50 107 SV.cells ([((⟨7, 0, 0, (k : Nat), 0⟩ : SV) : SV)])) :: (Cel b1 #[.int .i64 (m : Nat), .int .i64 un, .int .u8 kd, .int .u16 A, .int .i64 N] 73) :: L) w10 := (hs13.pull 1 rfl)
    refine GoR.append rfl (by kernel_rfl) svsOK svF (ad := adq) (c := cq) (xs := q) (ys := [((⟨7, 0, 0, (k : Nat), 0⟩ : SV) : SV)]) (adx := some ⟨b9, 0, none⟩) (cx := 1) dSV (by kernel_rfl) hs16 (hs16.rows 1 rfl (svF).size dSV) (fun h => nomatch h) (by simp only [List.length_append, List.length_cons, List.length_nil]; omega) (by simp only [List.length_append, List.length_cons, List.length_nil]; omega) ?_
    intro ad17 c18 w14 hs15
    refine ⟨Zqo, ?_⟩
    refine Zqk [(5, .gen [])] [] [(2, .slice ad17 ((q ++ ([((⟨7, 0, 0, (k : Nat), 0⟩ : SV) : SV)])).length) c18), (6, .int .i64 (un.toNat : Nat)), (7, .int .i64 (k : Nat))] ak0 ?_
    refine GoR.done (GoQ.blkN (GoQ.thn ?_))
    refine Zqt (.rd 0 (.rd 1 .done)) ?_
    refine Zqk [(0, .as_ (.int .i64 ((k : Nat) + 1)) (.gen [])), (1, .gen [])] [(0, [.prop (Value.int .i64 (IntKind.i64.wrap ((k : Nat) + 1)) = Value.int .i64 ((k : Nat) + 1))])] [(7, .int .i64 ((k : Nat) + 1)), (2, .slice ad17 ((q ++ ([((⟨7, 0, 0, (k : Nat), 0⟩ : SV) : SV)])).length) c18), (6, .int .i64 (un.toNat : Nat))] (ak (okp (i64ok (by omega) (by omega)) ok0) ak0) ?_
    refine GoR.done ?_
    have hs19 : St w0 ((Sl (some ⟨b9, 0, none⟩) 1 50 107 SV.cells ([((⟨7, 0, 0, (k : Nat), 0⟩ : SV) : SV)])) :: (Sl ad17 c18 50 107 SV.cells (q ++ ([((⟨7, 0, 0, (k : Nat), 0⟩ : SV) : SV)]))) :: (Cel b1 #[.int .i64 (m : Nat), .int .i64 un, .int .u8 kd, .int .u16 A, .int .i64 N] 73) :: L) w14 := (((hs15.pull 2 rfl).pull 1 rfl).pull 2 rfl)
    have hs20 : St w0 ((Sl ad17 c18 50 107 SV.cells (q ++ ([((⟨7, 0, 0, (k : Nat), 0⟩ : SV) : SV)]))) :: (Cel b1 #[.int .i64 (m : Nat), .int .i64 un, .int .u8 kd, .int .u16 A, .int .i64 N] 73) :: L) w14 := hs19.drop 1
    exact GoQ.back (k + 1, q ++ ([((⟨7, 0, 0, (k : Nat), 0⟩ : SV) : SV)]), ad17, c18) [2, 6, 7] (by kernel_rfl) (by show un.toNat - (k + 1) < un.toNat - k; omega) ⟨⟨by rw [hp.1]; exact (twiceL_succ k).symm, by simp only [List.length_append, List.length_cons, List.length_nil]; omega, by omega⟩, hs20⟩
  · have h8' : ¬ (((k : Nat) : Int) < (un.toNat : Nat)) := of_decide_eq_false h8
    refine GoC.exit (GoQ.skipC (GoQ.skipL (GoQ.hit (GoQ.thn (GoC.seq ?_)))))
    refine Zqt (.rd 0 (.rd 1 .done)) ?_
    refine Zqk [(0, .gen []), (1, .gen [])] [] [(2, .slice adq q.length cq)] ak0 ?_
    refine GoR.done (GoQ.thn (GoC.ret ?_))
    refine Zq1 (v := .slice adq q.length cq) ?_
    have hqe : q = twiceL un.toNat := by rw [hp.1, show k = un.toNat by omega]
    subst hqe
    have hs21 : St w0 ((Rd adq 107 SV.cells dSV (twiceL un.toNat)) :: (Cel b1 #[.int .i64 (m : Nat), .int .i64 un, .int .u8 kd, .int .u16 A, .int .i64 N] 73) :: L) w5 := St.rdSl svF dSV hs7
    have hs22 : St w0 ((Cel b1 #[.int .i64 (m : Nat), .int .i64 un, .int .u8 kd, .int .u16 A, .int .i64 N] 73) :: (Rd adq 107 SV.cells dSV (twiceL un.toNat)) :: L) w5 := ((hs21.pull 0 rfl).pull 1 rfl)
    have hs23 : St w0 ((Rd adq 107 SV.cells dSV (twiceL un.toNat)) :: L) w5 := hs22.drop 1
    exact ⟨adq, cq, rfl, hs23⟩
theorem kind9_spec {w0 w : World} {L : List Asn} (m : Nat) (un : Int) (kd : Int) (A : Int) (N : Int) (hm : 3 ≤ m ∧ m ≤ 11) (hA : 0 ≤ A ∧ A ≤ 65535) (hw : 0 ≤ A % (m : Int) ∧ A % (m : Int) < 11) (hu : un ≤ 300) (hs : St w0 (L) w) : Calls Tryz.prog 49 #[.agg #[.int .i64 (m : Nat), .int .i64 un, .int .u8 kd, .int .u16 A, .int .i64 N]] w (Ret fun rv w' => ∃ (ao : Option Addr) (co : Nat), rv = .slice ao ((turnL m).length) co ∧ St w0 ((Rd ao 107 SV.cells dSV (turnL m)) :: L) w') := by
  refine enter (args := [.agg #[.int .i64 (m : Nat), .int .i64 un, .int .u8 kd, .int .u16 A, .int .i64 N]]) Tryz.func49 rfl Tryz.ntmps49 (Nat.le_of_ble_eq_true (by kernel_rfl)) ?_
  refine GoC.slots (S' := [(0, .agg #[.int .i64 (m : Nat), .int .i64 un, .int .u8 kd, .int .u16 A, .int .i64 N])]) rfl ?_
  refine GoC.seq ?_
  refine Zqt (.ef 0 (.rd 1 .done)) ?_
  refine GoR.box rfl rfl (by kernel_rfl) (v := .agg #[.int .i64 (m : Nat), .int .i64 un, .int .u8 kd, .int .u16 A, .int .i64 N]) (by kernel_rfl) hs (cs := #[.int .i64 (m : Nat), .int .i64 un, .int .u8 kd, .int .u16 A, .int .i64 N]) (by kernel_rfl) ?_
  intro b1 w2 hs3
  refine ⟨Zqo, ?_⟩
  refine Zqk [(1, .gen [])] [] [(2, .slice none 0 0), (1, vp b1 0)] ak0 ?_
  refine GoR.done (GoQ.thn (GoC.seq (GoC.seq ?_)))
  refine Zqt (.rd 0 .done) ?_
  refine Zqk [(0, .gen [])] [] [(3, .int .i64 1), (2, .slice none 0 0), (1, vp b1 0)] ak0 ?_
  refine GoR.done (GoQ.thn (GoC.block ?_))
  have hs4 : St w0 ((Sl none 0 50 107 SV.cells ([] : List SV)) :: (Cel b1 #[.int .i64 (m : Nat), .int .i64 un, .int .u8 kd, .int .u16 A, .int .i64 N] 73) :: L) w2 := St.slNil hs3 50 107 SV.cells
  refine GoC.loop (T := Nat × (List SV) × (Option Addr) × Nat) (fun gg => [(1, vp b1 0), (2, .slice gg.2.2.1 gg.2.1.length gg.2.2.2), (3, .int .i64 ((gg.1 : Nat) + 1))]) (fun gg w => (gg.2.1 = turnR (2 * gg.1) ∧ gg.2.1.length = 2 * gg.1 ∧ gg.1 ≤ m) ∧ St w0 ((Sl gg.2.2.1 gg.2.2.2 50 107 SV.cells gg.2.1) :: (Cel b1 #[.int .i64 (m : Nat), .int .i64 un, .int .u8 kd, .int .u16 A, .int .i64 N] 73) :: L) w) (fun gg => m - gg.1) (0, ([] : List SV), none, 0) [1, 2, 3] (by kernel_rfl) ⟨⟨rfl, rfl, Nat.zero_le _⟩, hs4⟩ ?_
  rintro ⟨k, q, adq, cq⟩ w5 ⟨hp0, hs6⟩
  have hp : q = turnR (2 * k) ∧ q.length = 2 * k ∧ k ≤ m := hp0
  have hs7 : St w0 ((Sl adq cq 50 107 SV.cells q) :: (Cel b1 #[.int .i64 (m : Nat), .int .i64 un, .int .u8 kd, .int .u16 A, .int .i64 N] 73) :: L) w5 := hs6
  refine GoC.slots (S' := [(1, vp b1 0), (2, .slice adq q.length cq), (3, .int .i64 ((k : Nat) + 1))]) rfl ?_
  refine GoC.seq (GoC.seq ?_)
  refine Zqt (.rd 0 (.rd 1 (.rd 2 (.rd 3 .done)))) ?_
  refine Zqk [(0, .gen []), (1, .gen []), (2, .gen [.int .i64 (m : Nat)]), (3, .gen [])] [(2, [.cell ⟨b1, 0, none⟩ (.int .i64 (m : Nat))])] [(7, .bool (decide (((k : Nat) + 1 : Int) ≤ (m : Nat)))), (1, vp b1 0), (2, .slice adq q.length cq), (3, .int .i64 ((k : Nat) + 1))] (ak (okc (hs7.cell 1 rfl (by kernel_rfl)) ok0) ak0) ?_
  refine GoR.done (GoQ.thn ?_)
  refine Zqc (t := decide (((k : Nat) + 1 : Int) ≤ (m : Nat))) (fun h8 => ?_) (fun h8 => ?_)
  · have h8' : ((k : Nat) + 1 : Int) ≤ (m : Nat) := of_decide_eq_true h8
    refine GoC.skip (GoQ.thn (GoC.seq (GoC.block ?_)))
    refine Zqt (.rd 0 (.rd 1 (.rd 2 (.rd 3 (.rd 4 (.ef 5 (.ef 6 (.rd 7 .done)))))))) ?_
    refine Zqk [(0, .gen []), (1, .gen []), (2, .gen []), (3, .gen []), (4, .gen [])] [] [(14, .agg (SV.cells (⟨4, (k : Nat) + 1, 0, 0, 0⟩ : SV))), (12, .agg (SV.cells (⟨3, (k : Nat) + 1, 0, 0, 0⟩ : SV))), (10, .slice adq q.length cq), (1, vp b1 0), (2, .slice adq q.length cq), (3, .int .i64 ((k : Nat) + 1))] ak0 ?_
    refine GoR.sliceLit rfl (by kernel_rfl) (t := 26) (e := 50) (n := 2) (ps := [(0, .agg (SV.cells (⟨3, (k : Nat) + 1, 0, 0, 0⟩ : SV))), (1, .agg (SV.cells (⟨4, (k : Nat) + 1, 0, 0, 0⟩ : SV)))]) (by kernel_rfl) (by kernel_rfl) (ti := Tryz.t50) (z := svZ) (by kernel_rfl) (by kernel_rfl) (by decide) (by decide) (cs := SV.cells (⟨3, (k : Nat) + 1, 0, 0, 0⟩ : SV) ++ SV.cells (⟨4, (k : Nat) + 1, 0, 0, 0⟩ : SV)) (by kernel_rfl) hs7 ?_
    intro b9 w10 hs11 hz12
    have hs13 : St w0 ((Sl (some ⟨b9, 0, none⟩) 2 50 107 SV.cells ([((⟨3, (k : Nat) + 1, 0, 0, 0⟩ : SV) : SV), ((⟨4, (k : Nat) + 1, 0, 0, 0⟩ : SV) : SV)])) :: (Sl adq cq 50 107 SV.cells q) :: (Cel b1 #[.int .i64 (m : Nat), .int .i64 un, .int .u8 kd, .int .u16 A, .int .i64 N] 73) :: L) w10 := St.slOf (l := [((⟨3, (k : Nat) + 1, 0, 0, 0⟩ : SV) : SV), ((⟨4, (k : Nat) + 1, 0, 0, 0⟩ : SV) : SV)]) (f := SV.cells) hs11 hz12 (svF).size (by simp only [List.length_cons, List.length_nil, maxLen]; omega) (by kernel_rfl)
    refine ⟨Zqo, ?_⟩
    have hs16 : St w0 ((Sl adq cq 50 107 SV.cells q) :: (Sl (some ⟨b9, 0, none⟩) 2 50 107 SV.cells ([((⟨3, (k : Nat) + 1, 0, 0, 0⟩ : SV) : SV), ((⟨4, (k : Nat) + 1, 0, 0, 0⟩ : SV) : SV)])) :: (Cel b1 #[.int .i64 (m : Nat), .int .i64 un, .int .u8 kd, .int .u16 A, .int .i64 N] 73) :: L) w10 := (hs13.pull 1 rfl)
    refine GoR.append rfl (by kernel_rfl) svsOK svF (ad := adq) (c := cq) (xs := q) (ys := [((⟨3, (k : Nat) + 1, 0, 0, 0⟩ : SV) : SV), ((⟨4, (k : Nat) + 1, 0, 0, 0⟩ : SV) : SV)]) (adx := some ⟨b9, 0, none⟩) (cx := 2) dSV (by kernel_rfl) hs16 (hs16.rows 1 rfl (svF).size dSV) (fun h => nomatch h) (by simp only [List.length_append, List.length_cons, List.length_nil]; omega) (by simp only [List.length_append, List.length_cons, List.length_nil]; omega) ?_
    intro ad17 c18 w14 hs15
    refine ⟨Zqo, ?_⟩
    refine Zqk [(7, .gen [])] [] [(2, .slice ad17 ((q ++ ([((⟨3, (k : Nat) + 1, 0, 0, 0⟩ : SV) : SV), ((⟨4, (k : Nat) + 1, 0, 0, 0⟩ : SV) : SV)])).length) c18), (1, vp b1 0), (3, .int .i64 ((k : Nat) + 1))] ak0 ?_
    refine GoR.done (GoQ.blkN (GoQ.thn ?_))
    refine Zqt (.rd 0 (.rd 1 (.rd 2 .done))) ?_
    refine Zqk [(0, .gen []), (1, .as_ (.int .i64 ((k : Nat) + 2)) (.gen [])), (2, .gen [])] [(1, [.prop (Value.int .i64 (IntKind.i64.wrap (((k : Nat) + 1) + 1)) = Value.int .i64 ((k : Nat) + 2))])] [(3, .int .i64 ((k : Nat) + 2)), (2, .slice ad17 ((q ++ ([((⟨3, (k : Nat) + 1, 0, 0, 0⟩ : SV) : SV), ((⟨4, (k : Nat) + 1, 0, 0, 0⟩ : SV) : SV)])).length) c18), (1, vp b1 0)] (ak (okp (i64eq (by omega) (by omega) (by omega)) ok0) ak0) ?_
    refine GoR.done ?_
    have hs19 : St w0 ((Sl (some ⟨b9, 0, none⟩) 2 50 107 SV.cells ([((⟨3, (k : Nat) + 1, 0, 0, 0⟩ : SV) : SV), ((⟨4, (k : Nat) + 1, 0, 0, 0⟩ : SV) : SV)])) :: (Sl ad17 c18 50 107 SV.cells (q ++ ([((⟨3, (k : Nat) + 1, 0, 0, 0⟩ : SV) : SV), ((⟨4, (k : Nat) + 1, 0, 0, 0⟩ : SV) : SV)]))) :: (Cel b1 #[.int .i64 (m : Nat), .int .i64 un, .int .u8 kd, .int .u16 A, .int .i64 N] 73) :: L) w14 := (((hs15.pull 2 rfl).pull 1 rfl).pull 2 rfl)
    have hs20 : St w0 ((Sl ad17 c18 50 107 SV.cells (q ++ ([((⟨3, (k : Nat) + 1, 0, 0, 0⟩ : SV) : SV), ((⟨4, (k : Nat) + 1, 0, 0, 0⟩ : SV) : SV)]))) :: (Cel b1 #[.int .i64 (m : Nat), .int .i64 un, .int .u8 kd, .int .u16 A, .int .i64 N] 73) :: L) w14 := hs19.drop 1
    exact GoQ.back (k + 1, q ++ ([((⟨3, (k : Nat) + 1, 0, 0, 0⟩ : SV) : SV), ((⟨4, (k : Nat) + 1, 0, 0, 0⟩ : SV) : SV)]), ad17, c18) [1, 2, 3] (by kernel_rfl) (by show m - (k + 1) < m - k; omega) ⟨⟨by rw [hp.1]; exact (turn_two k).symm, by simp only [List.length_append, List.length_cons, List.length_nil]; omega, by omega⟩, hs20⟩
  · have h8' : ¬ (((k : Nat) + 1 : Int) ≤ (m : Nat)) := of_decide_eq_false h8
    refine GoC.exit (GoQ.skipC (GoQ.skipL (GoQ.hit (GoQ.thn (GoC.seq ?_)))))
    refine Zqt (.rd 0 (.rd 1 .done)) ?_
    refine Zqk [(0, .gen []), (1, .gen [])] [] [(2, .slice adq q.length cq)] ak0 ?_
    refine GoR.done (GoQ.thn (GoC.ret ?_))
    refine Zq1 (v := .slice adq q.length cq) ?_
    have hqe : q = turnL m := by rw [hp.1, show k = m by omega]; rfl
    subst hqe
    have hs21 : St w0 ((Rd adq 107 SV.cells dSV (turnL m)) :: (Cel b1 #[.int .i64 (m : Nat), .int .i64 un, .int .u8 kd, .int .u16 A, .int .i64 N] 73) :: L) w5 := St.rdSl svF dSV hs7
    have hs22 : St w0 ((Cel b1 #[.int .i64 (m : Nat), .int .i64 un, .int .u8 kd, .int .u16 A, .int .i64 N] 73) :: (Rd adq 107 SV.cells dSV (turnL m)) :: L) w5 := ((hs21.pull 0 rfl).pull 1 rfl)
    have hs23 : St w0 ((Rd adq 107 SV.cells dSV (turnL m)) :: L) w5 := hs22.drop 1
    exact ⟨adq, cq, rfl, hs23⟩
end Go.Proofs.YtahmejhidelkbaaGreatDoor

/-! DsC -/
namespace Go.Proofs.YtahmejhidelkbaaGreatDoor
open Go.RowKit Go.Sx
set_option linter.unusedVariables false
set_option linter.unusedSimpArgs false
set_option linter.unnecessarySimpa false
set_option maxRecDepth 100000
def bitA (A : Int) (i : Nat) : Int := A / 2 ^ i % 2
def cutAt (A : Int) (m p : Nat) : List SV := if p / m < p % m ∧ bitA A (p / m) + bitA A (p % m) = 1 then [⟨8, ((p / m : Nat) : Int) + 1, ((p % m : Nat) : Int) + 1, 0, 0⟩] else []
def cutsR (A : Int) (m p : Nat) : List SV := (List.range p).flatMap (cutAt A m)
def cutsL (A : Int) (m : Nat) : List SV := cutsR A m (m * m)
theorem cutsR_succ (A : Int) (m p : Nat) : cutsR A m (p + 1) = cutsR A m p ++ cutAt A m p := by simp [cutsR, List.range_succ]
theorem pair_div {m a b : Nat} (hb : b < m) : (m * a + b) / m = a := by
  rw [Nat.mul_add_div (by omega), Nat.div_eq_of_lt hb, Nat.add_zero]
theorem pair_mod {m a b : Nat} (hb : b < m) : (m * a + b) % m = b := by
  rw [Nat.mul_add_mod, Nat.mod_eq_of_lt hb]
theorem cut_skip (A : Int) {m a : Nat} : ∀ d, d ≤ a + 1 → d ≤ m → cutsR A m (m * a + d) = cutsR A m (m * a)
  | 0, _, _ => rfl
  | d + 1, h1, h2 => by
    rw [← Nat.add_assoc, cutsR_succ, cut_skip A d (by omega) (by omega)]
    have : cutAt A m (m * a + d) = [] := by
      unfold cutAt
      rw [pair_div (by omega), pair_mod (by omega), if_neg (by omega)]
    rw [this, List.append_nil]
theorem bitA_cases (A : Int) (i : Nat) : bitA A i = 0 ∨ bitA A i = 1 := by unfold bitA; omega
def sideF (A x : Int) : Bool := (iAnd .u16 (iShr .u16 A (x - 1)) 1 : Int) == 1
theorem and_one (z : Int) (h0 : 0 ≤ z) (h1 : z < 65536) : iAnd .u16 z 1 = z % 2 := by
  obtain ⟨n, rfl⟩ := Int.eq_ofNat_of_zero_le h0
  unfold iAnd
  have e1 : (BitVec.ofInt (IntKind.bits .u16) ((n : Nat) : Int) &&& BitVec.ofInt (IntKind.bits .u16) 1).toNat = n % 2 := by
    rw [BitVec.toNat_and, BitVec.toNat_ofInt, BitVec.toNat_ofInt]
    have e2 : (((n : Nat) : Int) % ((2 ^ (IntKind.bits .u16) : Nat) : Int)).toNat = n := by
      show (((n : Nat) : Int) % 65536).toNat = n
      omega
    have e3 : ((1 : Int) % ((2 ^ (IntKind.bits .u16) : Nat) : Int)).toNat = 1 := rfl
    rw [e2, e3, Nat.and_one_is_mod]
  rw [e1, u16w (by omega) (by omega)]
  omega
theorem shr_eq {A : Int} (h0 : 0 ≤ A) {k : Nat} (hk : k ≤ 11) : iShr .u16 A (k : Int) = A / 2 ^ k := by
  unfold iShr
  rw [Int.toNat_natCast, show min k (IntKind.bits .u16) = k by show min k 16 = k; omega]
  exact Int.fdiv_eq_ediv_of_nonneg _ (Int.le_of_lt (Int.pow_pos (by decide)))
theorem side_eq {A : Int} (h : 0 ≤ A ∧ A ≤ 65535) {k : Nat} (hk : k ≤ 11) : sideF A ((k : Int) + 1) = decide (bitA A k = 1) := by
  unfold sideF bitA
  rw [show (k : Int) + 1 - 1 = (k : Int) by omega, shr_eq h.1 hk]
  have h1 : 0 ≤ A / 2 ^ k := Int.ediv_nonneg h.1 (Int.le_of_lt (Int.pow_pos (by decide)))
  have h2 : A / 2 ^ k ≤ A := Int.ediv_le_self _ h.1
  rw [and_one _ h1 (by omega)]
  rfl
theorem cut_in {A : Int} (h : 0 ≤ A ∧ A ≤ 65535) {m a b : Nat} (hm : m ≤ 11) (hab : a < b) (hb : b < m) : cutAt A m (m * a + b) = if (sideF A ((a : Int) + 1) == sideF A ((b : Int) + 1)) = false then [⟨8, (a : Int) + 1, (b : Int) + 1, 0, 0⟩] else [] := by
  rw [side_eq h (by omega), side_eq h (by omega)]
  unfold cutAt
  rw [pair_div hb, pair_mod hb]
  rcases bitA_cases A a with h1 | h1 <;> rcases bitA_cases A b with h2 | h2 <;> rw [h1, h2] <;> simp [hab]
theorem side_spec {w0 w : World} {L : List Asn} {p : Nat} (m : Nat) (un : Int) (kd : Int) (A : Int) (N : Int) (x : Int) (hx : 1 ≤ x ∧ x ≤ 12) (hA : 0 ≤ A ∧ A ≤ 65535) (hs : St w0 ((Cel p #[.int .i64 (m : Nat), .int .i64 un, .int .u8 kd, .int .u16 A, .int .i64 N] 73) :: L) w) : Calls Tryz.prog 75 #[.int .i64 x, vp p 0] w (Ret fun rv w' => rv = .bool (sideF A x) ∧ St w0 ((Cel p #[.int .i64 (m : Nat), .int .i64 un, .int .u8 kd, .int .u16 A, .int .i64 N] 73) :: L) w') := by
  refine enter (args := [.int .i64 x, vp p 0]) Tryz.func75 rfl Tryz.ntmps75 (Nat.le_of_ble_eq_true (by kernel_rfl)) ?_
  refine GoC.slots (S' := [(0, .int .i64 x), (1, vp p 0)]) rfl ?_
  refine GoC.seq ?_
  refine Zqt (.rd 0 .done) ?_
  refine Zqk [(0, .gen [])] [] [(3, .bool false), (0, .int .i64 x), (1, vp p 0)] ak0 ?_
  refine GoR.done (GoQ.thn (GoC.seq ?_))
  refine Zqt (.rd 0 (.rd 1 (.rd 2 (.rd 3 (.rd 4 (.rd 5 (.rd 6 (.rd 7 (.rd 8 .done))))))))) ?_
  refine Zqk [(0, .gen []), (1, .gen []), (2, .gen [.int .u16 A]), (3, .gen []), (4, .as_ (.int .i64 (x - 1)) (.gen [])), (5, .shift (iShr .u16 A (x - 1))), (6, .gen []), (7, .gen []), (8, .gen [])] [(2, [.cell ⟨p, 3, none⟩ (.int .u16 A)]), (4, [.prop (Value.int .i64 (IntKind.i64.wrap (x - 1)) = Value.int .i64 (x - 1))]), (5, [.prop ((0 : Int) ≤ x - 1 ∧ Int.fdiv A (2 ^ (min (Int.toNat (x - 1)) (IntKind.bits .u16))) = iShr .u16 A (x - 1))])] [(3, .bool (((iAnd .u16 (iShr .u16 A (x - 1)) 1) : Int) == 1))] (ak (okc (hs.cell 0 rfl (by kernel_rfl)) ok0) (ak (okp (i64ok (by omega) (by omega)) ok0) (ak (okp ⟨(by first | omega | exact uwrap_nn rfl _), rfl⟩ ok0) ak0))) ?_
  refine GoR.done (GoQ.thn (GoC.ret ?_))
  refine Zq1 (v := .bool (((iAnd .u16 (iShr .u16 A (x - 1)) 1) : Int) == 1)) ?_
  exact ⟨rfl, hs⟩
theorem kind1_spec {w0 w : World} {L : List Asn} (m : Nat) (un : Int) (kd : Int) (A : Int) (N : Int) (hm : 3 ≤ m ∧ m ≤ 11) (hA : 0 ≤ A ∧ A ≤ 65535) (hw : 0 ≤ A % (m : Int) ∧ A % (m : Int) < 11) (hu : un ≤ 300) (hs : St w0 (L) w) : Calls Tryz.prog 38 #[.agg #[.int .i64 (m : Nat), .int .i64 un, .int .u8 kd, .int .u16 A, .int .i64 N]] w (Ret fun rv w' => ∃ (ao : Option Addr) (co : Nat), rv = .slice ao ((cutsL A m).length) co ∧ St w0 ((Rd ao 107 SV.cells dSV (cutsL A m)) :: L) w') := by
  refine enter (args := [.agg #[.int .i64 (m : Nat), .int .i64 un, .int .u8 kd, .int .u16 A, .int .i64 N]]) Tryz.func38 rfl Tryz.ntmps38 (Nat.le_of_ble_eq_true (by kernel_rfl)) ?_
  refine GoC.slots (S' := [(0, .agg #[.int .i64 (m : Nat), .int .i64 un, .int .u8 kd, .int .u16 A, .int .i64 N])]) rfl ?_
  refine GoC.seq ?_
  refine Zqt (.ef 0 (.rd 1 .done)) ?_
  refine GoR.box rfl rfl (by kernel_rfl) (v := .agg #[.int .i64 (m : Nat), .int .i64 un, .int .u8 kd, .int .u16 A, .int .i64 N]) (by kernel_rfl) hs (cs := #[.int .i64 (m : Nat), .int .i64 un, .int .u8 kd, .int .u16 A, .int .i64 N]) (by kernel_rfl) ?_
  intro b1 w2 hs3
  refine ⟨Zqo, ?_⟩
  refine Zqk [(1, .gen [])] [] [(2, .slice none 0 0), (1, vp b1 0)] ak0 ?_
  refine GoR.done (GoQ.thn (GoC.seq ?_))
  refine Zqt (.rd 0 (.rd 1 .done)) ?_
  refine Zqk [(0, .gen []), (1, .gen [])] [] [(3, .func (.func 75) #[] #[vp b1 0]), (2, .slice none 0 0), (1, vp b1 0)] ak0 ?_
  refine GoR.done (GoQ.thn (GoC.seq (GoC.seq ?_)))
  refine Zqt (.rd 0 .done) ?_
  refine Zqk [(0, .gen [])] [] [(4, .int .i64 1), (3, .func (.func 75) #[] #[vp b1 0]), (2, .slice none 0 0), (1, vp b1 0)] ak0 ?_
  refine GoR.done (GoQ.thn (GoC.block ?_))
  have hs4 : St w0 ((Sl none 0 50 107 SV.cells ([] : List SV)) :: (Cel b1 #[.int .i64 (m : Nat), .int .i64 un, .int .u8 kd, .int .u16 A, .int .i64 N] 73) :: L) w2 := St.slNil hs3 50 107 SV.cells
  refine GoC.loop (T := Nat × (List SV) × (Option Addr) × Nat) (fun gg => [(1, vp b1 0), (2, .slice gg.2.2.1 gg.2.1.length gg.2.2.2), (3, .func (.func 75) #[] #[vp b1 0]), (4, .int .i64 ((gg.1 : Nat) + 1))]) (fun gg w => (gg.2.1 = cutsR A m (m * gg.1) ∧ gg.2.1.length ≤ 11 * gg.1 ∧ gg.1 ≤ m) ∧ St w0 ((Sl gg.2.2.1 gg.2.2.2 50 107 SV.cells gg.2.1) :: (Cel b1 #[.int .i64 (m : Nat), .int .i64 un, .int .u8 kd, .int .u16 A, .int .i64 N] 73) :: L) w) (fun gg => m - gg.1) (0, ([] : List SV), none, 0) [1, 2, 3, 4] (by kernel_rfl) ⟨⟨by rw [Nat.mul_zero]; rfl, Nat.zero_le _, Nat.zero_le _⟩, hs4⟩ ?_
  rintro ⟨a1, q1, adq1, cq1⟩ w5 ⟨hpa0, hs6⟩
  have hpa : q1 = cutsR A m (m * a1) ∧ q1.length ≤ 11 * a1 ∧ a1 ≤ m := hpa0
  have hs7 : St w0 ((Sl adq1 cq1 50 107 SV.cells q1) :: (Cel b1 #[.int .i64 (m : Nat), .int .i64 un, .int .u8 kd, .int .u16 A, .int .i64 N] 73) :: L) w5 := hs6
  refine GoC.slots (S' := [(1, vp b1 0), (2, .slice adq1 q1.length cq1), (3, .func (.func 75) #[] #[vp b1 0]), (4, .int .i64 ((a1 : Nat) + 1))]) rfl ?_
  refine GoC.seq (GoC.seq ?_)
  refine Zqt (.rd 0 (.rd 1 (.rd 2 (.rd 3 .done)))) ?_
  refine Zqk [(0, .gen []), (1, .gen []), (2, .gen [.int .i64 (m : Nat)]), (3, .gen [])] [(2, [.cell ⟨b1, 0, none⟩ (.int .i64 (m : Nat))])] [(10, .bool (decide (((a1 : Nat) + 1 : Int) ≤ (m : Nat)))), (1, vp b1 0), (2, .slice adq1 q1.length cq1), (3, .func (.func 75) #[] #[vp b1 0]), (4, .int .i64 ((a1 : Nat) + 1))] (ak (okc (hs7.cell 1 rfl (by kernel_rfl)) ok0) ak0) ?_
  refine GoR.done (GoQ.thn ?_)
  refine Zqc (t := decide (((a1 : Nat) + 1 : Int) ≤ (m : Nat))) (fun h8 => ?_) (fun h8 => ?_)
  · have h8' : ((a1 : Nat) + 1 : Int) ≤ (m : Nat) := of_decide_eq_true h8
    refine GoC.skip (GoQ.thn (GoC.seq (GoC.block (GoC.seq ?_))))
    refine Zqt (.rd 0 (.rd 1 (.rd 2 .done))) ?_
    refine Zqk [(0, .gen []), (1, .as_ (.int .i64 ((a1 : Nat) + 2)) (.gen [])), (2, .gen [])] [(1, [.prop (Value.int .i64 (IntKind.i64.wrap (((a1 : Nat) + 1) + 1)) = Value.int .i64 ((a1 : Nat) + 2))])] [(5, .int .i64 ((a1 : Nat) + 2)), (1, vp b1 0), (2, .slice adq1 q1.length cq1), (3, .func (.func 75) #[] #[vp b1 0]), (4, .int .i64 ((a1 : Nat) + 1))] (ak (okp (i64eq (by omega) (by omega) (by omega)) ok0) ak0) ?_
    refine GoR.done (GoQ.thn (GoC.block ?_))
    refine GoC.loop (T := Nat × (List SV) × (Option Addr) × Nat) (fun gg => [(1, vp b1 0), (2, .slice gg.2.2.1 gg.2.1.length gg.2.2.2), (3, .func (.func 75) #[] #[vp b1 0]), (4, .int .i64 ((a1 : Nat) + 1)), (5, .int .i64 ((gg.1 : Nat) + 1))]) (fun gg w => (a1 < gg.1 ∧ gg.1 ≤ m ∧ gg.2.1 = cutsR A m (m * a1 + gg.1) ∧ gg.2.1.length ≤ 11 * a1 + gg.1) ∧ St w0 ((Sl gg.2.2.1 gg.2.2.2 50 107 SV.cells gg.2.1) :: (Cel b1 #[.int .i64 (m : Nat), .int .i64 un, .int .u8 kd, .int .u16 A, .int .i64 N] 73) :: L) w) (fun gg => m - gg.1) ((a1 + 1), q1, adq1, cq1) [1, 2, 3, 4, 5] (by kernel_rfl) ⟨⟨by omega, by omega, by rw [hpa.1]; exact (cut_skip A (a1 + 1) (by omega) (by omega)).symm, by first | omega | (simp only; omega)⟩, hs7⟩ ?_
    rintro ⟨b2, q2, adq2, cq2⟩ w9 ⟨hpb0, hs10⟩
    have hpb : a1 < b2 ∧ b2 ≤ m ∧ q2 = cutsR A m (m * a1 + b2) ∧ q2.length ≤ 11 * a1 + b2 := hpb0
    have hs11 : St w0 ((Sl adq2 cq2 50 107 SV.cells q2) :: (Cel b1 #[.int .i64 (m : Nat), .int .i64 un, .int .u8 kd, .int .u16 A, .int .i64 N] 73) :: L) w9 := hs10
    refine GoC.slots (S' := [(1, vp b1 0), (2, .slice adq2 q2.length cq2), (3, .func (.func 75) #[] #[vp b1 0]), (4, .int .i64 ((a1 : Nat) + 1)), (5, .int .i64 ((b2 : Nat) + 1))]) rfl ?_
    refine GoC.seq (GoC.seq ?_)
    refine Zqt (.rd 0 (.rd 1 (.rd 2 (.rd 3 .done)))) ?_
    refine Zqk [(0, .gen []), (1, .gen []), (2, .gen [.int .i64 (m : Nat)]), (3, .gen [])] [(2, [.cell ⟨b1, 0, none⟩ (.int .i64 (m : Nat))])] [(18, .bool (decide (((b2 : Nat) + 1 : Int) ≤ (m : Nat)))), (1, vp b1 0), (2, .slice adq2 q2.length cq2), (3, .func (.func 75) #[] #[vp b1 0]), (4, .int .i64 ((a1 : Nat) + 1)), (5, .int .i64 ((b2 : Nat) + 1))] (ak (okc (hs11.cell 1 rfl (by kernel_rfl)) ok0) ak0) ?_
    refine GoR.done (GoQ.thn ?_)
    refine Zqc (t := decide (((b2 : Nat) + 1 : Int) ≤ (m : Nat))) (fun h12 => ?_) (fun h12 => ?_)
    · have h12' : ((b2 : Nat) + 1 : Int) ≤ (m : Nat) := of_decide_eq_true h12
      refine GoC.skip (GoQ.thn (GoC.seq (GoC.block (GoC.seq ?_))))
      refine Zqt (.rd 0 (.rd 1 (.ef 2 (.rd 3 (.rd 4 (.ef 5 (.rd 6 .done))))))) ?_
      refine Zqk [(0, .gen []), (1, .gen [])] [] [(22, .int .i64 ((a1 : Nat) + 1)), (21, .func (.func 75) #[] #[vp b1 0]), (1, vp b1 0), (2, .slice adq2 q2.length cq2), (3, .func (.func 75) #[] #[vp b1 0]), (4, .int .i64 ((a1 : Nat) + 1)), (5, .int .i64 ((b2 : Nat) + 1))] ak0 ?_
      have hs13 : St w0 ((Cel b1 #[.int .i64 (m : Nat), .int .i64 un, .int .u8 kd, .int .u16 A, .int .i64 N] 73) :: (Sl adq2 cq2 50 107 SV.cells q2) :: L) w9 := (hs11.pull 1 rfl)
      refine Zqa (f := 75) (args := #[.int .i64 ((a1 : Nat) + 1), vp b1 0]) Tryz.call75 (side_spec m un kd A N ((a1 : Nat) + 1) (by first | assumption | omega) (by first | assumption | omega) hs13) ?_
      rintro v15 w16 ⟨rfl, hs14⟩
      refine ⟨Zqo, ?_⟩
      refine Zqk [(3, .gen []), (4, .gen [])] [] [(25, .int .i64 ((b2 : Nat) + 1)), (24, .func (.func 75) #[] #[vp b1 0]), (23, .bool (sideF A ((a1 : Nat) + 1))), (1, vp b1 0), (2, .slice adq2 q2.length cq2), (3, .func (.func 75) #[] #[vp b1 0]), (4, .int .i64 ((a1 : Nat) + 1)), (5, .int .i64 ((b2 : Nat) + 1))] ak0 ?_
      refine Zqa (f := 75) (args := #[.int .i64 ((b2 : Nat) + 1), vp b1 0]) Tryz.call75 (side_spec m un kd A N ((b2 : Nat) + 1) (by first | assumption | omega) (by first | assumption | omega) hs14) ?_
      rintro v18 w19 ⟨rfl, hs17⟩
      refine ⟨Zqo, ?_⟩
      refine Zqk [(6, .gen [])] [] [(27, .bool (!((sideF A ((a1 : Nat) + 1)) == (sideF A ((b2 : Nat) + 1))))), (1, vp b1 0), (2, .slice adq2 q2.length cq2), (3, .func (.func 75) #[] #[vp b1 0]), (4, .int .i64 ((a1 : Nat) + 1)), (5, .int .i64 ((b2 : Nat) + 1))] ak0 ?_
      refine GoR.done (GoQ.thn ?_)
      refine Zqc (t := !((sideF A ((a1 : Nat) + 1)) == (sideF A ((b2 : Nat) + 1)))) (fun h20 => ?_) (fun h20 => ?_)
      · have h20n : ((sideF A ((a1 : Nat) + 1)) == (sideF A ((b2 : Nat) + 1))) = false := notT h20
        refine Zqt (.rd 0 (.rd 1 (.rd 2 (.rd 3 (.ef 4 (.ef 5 (.rd 6 .done))))))) ?_
        refine Zqk [(0, .gen []), (1, .gen []), (2, .gen []), (3, .gen [])] [] [(31, .agg (SV.cells (⟨8, (a1 : Nat) + 1, (b2 : Nat) + 1, 0, 0⟩ : SV))), (28, .slice adq2 q2.length cq2), (1, vp b1 0), (2, .slice adq2 q2.length cq2), (3, .func (.func 75) #[] #[vp b1 0]), (4, .int .i64 ((a1 : Nat) + 1)), (5, .int .i64 ((b2 : Nat) + 1))] ak0 ?_
        refine GoR.sliceLit rfl (by kernel_rfl) (t := 26) (e := 50) (n := 1) (ps := [(0, .agg (SV.cells (⟨8, (a1 : Nat) + 1, (b2 : Nat) + 1, 0, 0⟩ : SV)))]) (by kernel_rfl) (by kernel_rfl) (ti := Tryz.t50) (z := svZ) (by kernel_rfl) (by kernel_rfl) (by decide) (by decide) (cs := SV.cells (⟨8, (a1 : Nat) + 1, (b2 : Nat) + 1, 0, 0⟩ : SV)) (by kernel_rfl) hs17 ?_
        intro b21 w22 hs23 hz24
        have hs25 : St w0 ((Sl (some ⟨b21, 0, none⟩) 1 50 107 SV.cells ([((⟨8, (a1 : Nat) + 1, (b2 : Nat) + 1, 0, 0⟩ : SV) : SV)])) :: (Cel b1 #[.int .i64 (m : Nat), .int .i64 un, .int .u8 kd, .int .u16 A, .int .i64 N] 73) :: (Sl adq2 cq2 50 107 SV.cells q2) :: L) w22 := St.slOf (l := [((⟨8, (a1 : Nat) + 1, (b2 : Nat) + 1, 0, 0⟩ : SV) : SV)]) (f := SV.cells) hs23 hz24 (svF).size (by simp only [List.length_cons, List.length_nil, maxLen]; omega) (by kernel_rfl)
        refine ⟨Zqo, ?_⟩
        have hs28 : St w0 ((Sl adq2 cq2 50 107 SV.cells q2) :: (Sl (some ⟨b21, 0, none⟩) 1 50 107 SV.cells ([((⟨8, (a1 : Nat) + 1, (b2 : Nat) + 1, 0, 0⟩ : SV) : SV)])) :: (Cel b1 #[.int .i64 (m : Nat), .int .i64 un, .int .u8 kd, .int .u16 A, .int .i64 N] 73) :: L) w22 := (hs25.pull 2 rfl)
        refine GoR.append rfl (by kernel_rfl) svsOK svF (ad := adq2) (c := cq2) (xs := q2) (ys := [((⟨8, (a1 : Nat) + 1, (b2 : Nat) + 1, 0, 0⟩ : SV) : SV)]) (adx := some ⟨b21, 0, none⟩) (cx := 1) dSV (by kernel_rfl) hs28 (hs28.rows 1 rfl (svF).size dSV) (fun h => nomatch h) (by simp only [List.length_append, List.length_cons, List.length_nil]; omega) (by simp only [List.length_append, List.length_cons, List.length_nil]; omega) ?_
        intro ad29 c30 w26 hs27
        refine ⟨Zqo, ?_⟩
        refine Zqk [(6, .gen [])] [] [(2, .slice ad29 ((q2 ++ ([((⟨8, (a1 : Nat) + 1, (b2 : Nat) + 1, 0, 0⟩ : SV) : SV)])).length) c30), (1, vp b1 0), (3, .func (.func 75) #[] #[vp b1 0]), (4, .int .i64 ((a1 : Nat) + 1)), (5, .int .i64 ((b2 : Nat) + 1))] ak0 ?_
        refine GoR.done (GoQ.blkN (GoQ.thn ?_))
        refine Zqt (.rd 0 (.rd 1 (.rd 2 .done))) ?_
        refine Zqk [(0, .gen []), (1, .as_ (.int .i64 ((b2 : Nat) + 2)) (.gen [])), (2, .gen [])] [(1, [.prop (Value.int .i64 (IntKind.i64.wrap (((b2 : Nat) + 1) + 1)) = Value.int .i64 ((b2 : Nat) + 2))])] [(5, .int .i64 ((b2 : Nat) + 2)), (2, .slice ad29 ((q2 ++ ([((⟨8, (a1 : Nat) + 1, (b2 : Nat) + 1, 0, 0⟩ : SV) : SV)])).length) c30), (1, vp b1 0), (3, .func (.func 75) #[] #[vp b1 0]), (4, .int .i64 ((a1 : Nat) + 1))] (ak (okp (i64eq (by omega) (by omega) (by omega)) ok0) ak0) ?_
        refine GoR.done ?_
        have hs31 : St w0 ((Sl (some ⟨b21, 0, none⟩) 1 50 107 SV.cells ([((⟨8, (a1 : Nat) + 1, (b2 : Nat) + 1, 0, 0⟩ : SV) : SV)])) :: (Sl ad29 c30 50 107 SV.cells (q2 ++ ([((⟨8, (a1 : Nat) + 1, (b2 : Nat) + 1, 0, 0⟩ : SV) : SV)]))) :: (Cel b1 #[.int .i64 (m : Nat), .int .i64 un, .int .u8 kd, .int .u16 A, .int .i64 N] 73) :: L) w26 := (((hs27.pull 2 rfl).pull 1 rfl).pull 2 rfl)
        have hs32 : St w0 ((Sl ad29 c30 50 107 SV.cells (q2 ++ ([((⟨8, (a1 : Nat) + 1, (b2 : Nat) + 1, 0, 0⟩ : SV) : SV)]))) :: (Cel b1 #[.int .i64 (m : Nat), .int .i64 un, .int .u8 kd, .int .u16 A, .int .i64 N] 73) :: L) w26 := hs31.drop 1
        exact GoQ.back (b2 + 1, q2 ++ ([((⟨8, (a1 : Nat) + 1, (b2 : Nat) + 1, 0, 0⟩ : SV) : SV)]), ad29, c30) [1, 2, 3, 4, 5] (by kernel_rfl) (by show m - (b2 + 1) < m - b2; omega) ⟨⟨by omega, by omega, by rw [← Nat.add_assoc, cutsR_succ, cut_in hA hm.2 hpb.1 (by omega), if_pos h20n, hpb.2.2.1], by simp only [List.length_append, List.length_cons, List.length_nil]; omega⟩, hs32⟩
      · have h20n : ((sideF A ((a1 : Nat) + 1)) == (sideF A ((b2 : Nat) + 1))) = true := notF h20
        refine GoC.skip (GoQ.blkN (GoQ.thn ?_))
        refine Zqt (.rd 0 (.rd 1 (.rd 2 .done))) ?_
        refine Zqk [(0, .gen []), (1, .as_ (.int .i64 ((b2 : Nat) + 2)) (.gen [])), (2, .gen [])] [(1, [.prop (Value.int .i64 (IntKind.i64.wrap (((b2 : Nat) + 1) + 1)) = Value.int .i64 ((b2 : Nat) + 2))])] [(5, .int .i64 ((b2 : Nat) + 2)), (1, vp b1 0), (2, .slice adq2 q2.length cq2), (3, .func (.func 75) #[] #[vp b1 0]), (4, .int .i64 ((a1 : Nat) + 1))] (ak (okp (i64eq (by omega) (by omega) (by omega)) ok0) ak0) ?_
        refine GoR.done ?_
        have hs33 : St w0 ((Sl adq2 cq2 50 107 SV.cells q2) :: (Cel b1 #[.int .i64 (m : Nat), .int .i64 un, .int .u8 kd, .int .u16 A, .int .i64 N] 73) :: L) w19 := ((hs17.pull 0 rfl).pull 1 rfl)
        exact GoQ.back (b2 + 1, q2, adq2, cq2) [1, 2, 3, 4, 5] (by kernel_rfl) (by show m - (b2 + 1) < m - b2; omega) ⟨⟨by omega, by omega, by rw [← Nat.add_assoc, cutsR_succ, cut_in hA hm.2 hpb.1 (by omega), if_neg (by rw [h20n]; decide), List.append_nil, hpb.2.2.1], by first | omega | (simp only; omega)⟩, hs33⟩
    · have h12' : ¬ (((b2 : Nat) + 1 : Int) ≤ (m : Nat)) := of_decide_eq_false h12
      refine GoC.exit (GoQ.skipC (GoQ.skipL (GoQ.hit (GoQ.blkN (GoQ.thn ?_)))))
      refine Zqt (.rd 0 (.rd 1 (.rd 2 .done))) ?_
      refine Zqk [(0, .gen []), (1, .as_ (.int .i64 ((a1 : Nat) + 2)) (.gen [])), (2, .gen [])] [(1, [.prop (Value.int .i64 (IntKind.i64.wrap (((a1 : Nat) + 1) + 1)) = Value.int .i64 ((a1 : Nat) + 2))])] [(4, .int .i64 ((a1 : Nat) + 2)), (1, vp b1 0), (2, .slice adq2 q2.length cq2), (3, .func (.func 75) #[] #[vp b1 0])] (ak (okp (i64eq (by omega) (by omega) (by omega)) ok0) ak0) ?_
      refine GoR.done ?_
      exact GoQ.back (a1 + 1, q2, adq2, cq2) [1, 2, 3, 4] (by kernel_rfl) (by show m - (a1 + 1) < m - a1; omega) ⟨⟨by rw [hpb.2.2.1, show b2 = m by omega, Nat.mul_succ], by first | omega | (simp only; omega), by first | omega | (simp only; omega)⟩, hs11⟩
  · have h8' : ¬ (((a1 : Nat) + 1 : Int) ≤ (m : Nat)) := of_decide_eq_false h8
    refine GoC.exit (GoQ.skipC (GoQ.skipL (GoQ.hit (GoQ.thn (GoC.seq ?_)))))
    refine Zqt (.rd 0 (.rd 1 .done)) ?_
    refine Zqk [(0, .gen []), (1, .gen [])] [] [(2, .slice adq1 q1.length cq1)] ak0 ?_
    refine GoR.done (GoQ.thn (GoC.ret ?_))
    refine Zq1 (v := .slice adq1 q1.length cq1) ?_
    have hqe : q1 = cutsL A m := by rw [hpa.1, show a1 = m by omega]; rfl
    subst hqe
    have hs34 : St w0 ((Rd adq1 107 SV.cells dSV (cutsL A m)) :: (Cel b1 #[.int .i64 (m : Nat), .int .i64 un, .int .u8 kd, .int .u16 A, .int .i64 N] 73) :: L) w5 := St.rdSl svF dSV hs7
    have hs35 : St w0 ((Cel b1 #[.int .i64 (m : Nat), .int .i64 un, .int .u8 kd, .int .u16 A, .int .i64 N] 73) :: (Rd adq1 107 SV.cells dSV (cutsL A m)) :: L) w5 := ((hs34.pull 0 rfl).pull 1 rfl)
    have hs36 : St w0 ((Rd adq1 107 SV.cells dSV (cutsL A m)) :: L) w5 := hs35.drop 1
    exact ⟨adq1, cq1, rfl, hs36⟩
end Go.Proofs.YtahmejhidelkbaaGreatDoor

/-! DsD -/
namespace Go.Proofs.YtahmejhidelkbaaGreatDoor
open Go.RowKit Go.Sx
set_option linter.unusedVariables false
set_option linter.unusedSimpArgs false
set_option linter.unnecessarySimpa false
set_option maxRecDepth 100000
theorem kinds_spec {w0 w : World} {L : List Asn} (hs : St w0 (L) w) : Calls Tryz.prog 17 #[] w (Ret fun rv w' => rv = .agg #[.nilFunc, .func (.func 38) #[] #[], .func (.func 39) #[] #[], .func (.func 41) #[] #[], .func (.func 43) #[] #[], .func (.func 44) #[] #[], .func (.func 45) #[] #[], .func (.func 47) #[] #[], .func (.func 48) #[] #[], .func (.func 49) #[] #[]] ∧ St w0 (L) w') := by
  refine enter (args := []) Tryz.func17 rfl Tryz.ntmps17 (Nat.le_of_ble_eq_true (by kernel_rfl)) ?_
  refine GoC.slots (S' := []) rfl ?_
  refine GoC.seq ?_
  refine Zqt (.ef 0 .done) ?_
  refine GoR.alloc rfl rfl (by kernel_rfl) (z := .agg #[.nilFunc, .nilFunc, .nilFunc, .nilFunc, .nilFunc, .nilFunc, .nilFunc, .nilFunc, .nilFunc, .nilFunc]) (by kernel_rfl) hs (cs := #[.nilFunc, .nilFunc, .nilFunc, .nilFunc, .nilFunc, .nilFunc, .nilFunc, .nilFunc, .nilFunc, .nilFunc]) (by kernel_rfl) ?_
  intro b1 w2 hs3
  refine ⟨Zqo, ?_⟩
  refine GoR.done (GoQ.thn (GoC.seq ?_))
  refine Zqt (.rd 0 (.ef 1 .done)) ?_
  refine Zqk [(0, .gen [])] [] [(1, .agg #[.nilFunc, .func (.func 38) #[] #[], .func (.func 39) #[] #[], .func (.func 41) #[] #[], .func (.func 43) #[] #[], .func (.func 44) #[] #[], .func (.func 45) #[] #[], .func (.func 47) #[] #[], .func (.func 48) #[] #[], .func (.func 49) #[] #[]]), (0, vp b1 0)] ak0 ?_
  refine GoR.store rfl rfl (by kernel_rfl) (b := b1) (off := 0) (v := .agg #[.nilFunc, .func (.func 38) #[] #[], .func (.func 39) #[] #[], .func (.func 41) #[] #[], .func (.func 43) #[] #[], .func (.func 44) #[] #[], .func (.func 45) #[] #[], .func (.func 47) #[] #[], .func (.func 48) #[] #[], .func (.func 49) #[] #[]]) (by kernel_rfl) (by kernel_rfl) (ti := Tryz.t70) (by kernel_rfl) hs3 0 rfl (by kernel_rfl) (by kernel_rfl) (Nat.le_of_ble_eq_true (by kernel_rfl)) (cs' := #[.nilFunc, .func (.func 38) #[] #[], .func (.func 39) #[] #[], .func (.func 41) #[] #[], .func (.func 43) #[] #[], .func (.func 44) #[] #[], .func (.func 45) #[] #[], .func (.func 47) #[] #[], .func (.func 48) #[] #[], .func (.func 49) #[] #[]]) (L' := (Cel b1 #[.nilFunc, .func (.func 38) #[] #[], .func (.func 39) #[] #[], .func (.func 41) #[] #[], .func (.func 43) #[] #[], .func (.func 44) #[] #[], .func (.func 45) #[] #[], .func (.func 47) #[] #[], .func (.func 48) #[] #[], .func (.func 49) #[] #[]] 70) :: L) (by kernel_rfl) rfl ?_
  intro w4 hs5
  refine ⟨Zqo, ?_⟩
  refine GoR.done (GoQ.thn (GoC.ret ?_))
  refine GoQ.done (.inl rfl) (v := .agg #[.nilFunc, .func (.func 38) #[] #[], .func (.func 39) #[] #[], .func (.func 41) #[] #[], .func (.func 43) #[] #[], .func (.func 44) #[] #[], .func (.func 45) #[] #[], .func (.func 47) #[] #[], .func (.func 48) #[] #[], .func (.func 49) #[] #[]]) (fun a hf => resultsA rfl (by kernel_rfl) (ti := Tryz.t70) (by kernel_rfl) (by kernel_rfl) (vs := #[.nilFunc, .func (.func 38) #[] #[], .func (.func 39) #[] #[], .func (.func 41) #[] #[], .func (.func 43) #[] #[], .func (.func 44) #[] #[], .func (.func 45) #[] #[], .func (.func 47) #[] #[], .func (.func 48) #[] #[], .func (.func 49) #[] #[]]) (by kernel_rfl) (hs5.cells 0 0 rfl (by kernel_rfl)) a hf) ?_
  have hs6 : St w0 (L) w4 := hs5.drop 1
  exact ⟨rfl, hs6⟩
abbrev kindsA : Array Value := #[.nilFunc, .func (.func 38) #[] #[], .func (.func 39) #[] #[], .func (.func 41) #[] #[], .func (.func 43) #[] #[], .func (.func 44) #[] #[], .func (.func 45) #[] #[], .func (.func 47) #[] #[], .func (.func 48) #[] #[], .func (.func 49) #[] #[]]
theorem stepsG_spec {w0 w : World} {L : List Asn} (m : Nat) (un : Int) (kd : Int) (A : Int) (N : Int) (f : Nat) (Lx : List SV) (hkr : 1 ≤ kd ∧ kd ≤ 9) (hodd : oddF (m : Nat) = true) (hix : kindsA[Int.toNat kd * 1]? = some (.func (.func f) #[] #[])) (hcall : ∀ args w, (callFunc f args).run Tryz.prog w = .ok (.enter f args) w) (hK : ∀ {w0 w : World} {L : List Asn}, St w0 L w → Calls Tryz.prog f #[.agg #[.int .i64 (m : Nat), .int .i64 un, .int .u8 kd, .int .u16 A, .int .i64 N]] w (Ret fun rv w' => ∃ (ao : Option Addr) (co : Nat), rv = .slice ao Lx.length co ∧ St w0 (Rd ao 107 SV.cells dSV Lx :: L) w')) (hs : St w0 (L) w) : Calls Tryz.prog 6 #[.int .i64 (m : Nat), .agg #[.int .u8 kd, .int .u16 A, .int .i64 N], .int .i64 un] w (Ret fun rv w' => ∃ (ao : Option Addr) (co : Nat), rv = .slice ao Lx.length co ∧ St w0 ((Rd ao 107 SV.cells dSV Lx) :: L) w') := by
  refine enter (args := [.int .i64 (m : Nat), .agg #[.int .u8 kd, .int .u16 A, .int .i64 N], .int .i64 un]) Tryz.func6 rfl Tryz.ntmps6 (Nat.le_of_ble_eq_true (by kernel_rfl)) ?_
  refine GoC.slots (S' := [(0, .int .i64 (m : Nat)), (1, .agg #[.int .u8 kd, .int .u16 A, .int .i64 N]), (2, .int .i64 un)]) rfl ?_
  refine GoC.seq ?_
  refine Zqt (.ef 0 (.rd 1 .done)) ?_
  refine GoR.box rfl rfl (by kernel_rfl) (v := .agg #[.int .u8 kd, .int .u16 A, .int .i64 N]) (by kernel_rfl) hs (cs := #[.int .u8 kd, .int .u16 A, .int .i64 N]) (by kernel_rfl) ?_
  intro b1 w2 hs3
  refine ⟨Zqo, ?_⟩
  refine Zqk [(1, .gen [])] [] [(6, .slice none 0 0), (4, vp b1 0), (0, .int .i64 (m : Nat)), (2, .int .i64 un)] ak0 ?_
  refine GoR.done (GoQ.thn (GoC.seq (GoC.seq ?_)))
  refine Zqt (.rd 0 (.ef 1 (.rd 2 (.rd 3 (.rd 4 (.rd 5 (.rd 6 (.rd 7 (.rd 8 (.rd 9 (.rd 10 (.rd 11 (.rd 12 .done))))))))))))) ?_
  refine Zqk [(0, .gen [])] [] [(7, .int .i64 (m : Nat)), (6, .slice none 0 0), (4, vp b1 0), (0, .int .i64 (m : Nat)), (2, .int .i64 un)] ak0 ?_
  refine Zqa (f := 16) (args := #[.int .i64 (m : Nat)]) Tryz.call16 (oddF_spec (m : Nat)  hs3) ?_
  rintro v5 w6 ⟨rfl, hs4⟩
  refine ⟨Zqo, ?_⟩
  refine Zqk [(2, .gen []), (3, .gen [])] [] [(10, .bool (!(oddF (m : Nat)))), (6, .slice none 0 0), (4, vp b1 0), (0, .int .i64 (m : Nat)), (2, .int .i64 un)] ak0 ?_
  refine Zqs 10 false (show (!(oddF (m : Nat))) = false from by rw [hodd]; rfl) ?_
  refine Zqk [(4, .gen []), (5, .gen [.int .u8 kd]), (6, .gen []), (7, .gen []), (8, .gen [])] [(5, [.cell ⟨b1, 0, none⟩ (.int .u8 kd)])] [(15, .bool (decide ((kd : Int) < 1))), (6, .slice none 0 0), (4, vp b1 0), (0, .int .i64 (m : Nat)), (2, .int .i64 un)] (ak (okc (hs4.cell 0 rfl (by kernel_rfl)) ok0) ak0) ?_
  refine Zqs 15 false (show decide ((kd : Int) < 1) = false from decide_eq_false (by omega)) ?_
  refine Zqk [(9, .gen []), (10, .gen [.int .u8 kd]), (11, .gen []), (12, .gen [])] [(10, [.cell ⟨b1, 0, none⟩ (.int .u8 kd)])] [(19, .bool (decide ((kd : Int) > 9))), (6, .slice none 0 0), (4, vp b1 0), (0, .int .i64 (m : Nat)), (2, .int .i64 un)] (ak (okc (hs4.cell 0 rfl (by kernel_rfl)) ok0) ak0) ?_
  refine GoR.done (GoQ.thn ?_)
  refine Zqc (t := decide ((kd : Int) > 9)) (fun hc => absurd ((show decide ((kd : Int) > 9) = false from decide_eq_false (by omega)).symm.trans hc) (by decide)) (fun _ => ?_)
  refine GoC.skip (GoQ.thn (GoC.seq ?_))
  refine GoC.regD [0, 0, 2, 7, 0, 0, 0, 112, 255, 511] (.rd 1 (.rd 2 (.rd 4 (.rd 5 (.rd 6 (.rd 7 (.ef 0 (.rd 3 (.ef 8 (.rd 9 .done)))))))))) (by kernel_rfl) (by kernel_rfl) noPan_body (by kernel_rfl) hs4 ?_
  intro w7 hs8 hw9
  refine Zqk [(1, .gen []), (2, .gen [.int .u8 kd]), (4, .gen []), (5, .gen []), (6, .agg #[.int .u8 kd, .int .u16 A, .int .i64 N]), (7, .gen [])] [(2, [.cell ⟨b1, 0, none⟩ (.int .u8 kd)]), (6, [.prop (Array.size (#[.int .u8 kd, .int .u16 A, .int .i64 N] : Array Value) = 3), .cells ⟨b1, 0, none⟩ #[.int .u8 kd, .int .u16 A, .int .i64 N]])] [(27, .agg #[.int .i64 (m : Nat), .int .i64 un, .int .u8 kd, .int .u16 A, .int .i64 N]), (22, .int .u8 kd), (6, .slice none 0 0)] (ak (okc (hs8.cell 0 rfl (by kernel_rfl)) ok0) (ak (okp (by kernel_rfl) (oka (hs8.cells 0 0 rfl (by kernel_rfl)) ok0)) ak0)) ?_
  refine Zqa (f := 17) (args := #[]) Tryz.call17 (kinds_spec hs8) ?_
  rintro v11 w12 ⟨rfl, hs10⟩
  refine ⟨(opl (n := [.prop (Array.size (#[.int .u8 kd, .int .u16 A, .int .i64 N] : Array Value) = 3), .cells ⟨b1, 0, none⟩ #[.int .u8 kd, .int .u16 A, .int .i64 N], .cell ⟨b1, 0, none⟩ (.int .u8 kd)]) (by kernel_rfl) (okp (by kernel_rfl) (oka (hs10.cells 0 0 rfl (by kernel_rfl)) (okc (hs10.cell 0 rfl (by kernel_rfl)) ok0)))), ?_⟩
  refine Zqk [(3, .elem (.func (.func f) #[] #[]))] [(3, [.prop (0 ≤ (kd : Int) ∧ (kd : Int) < (10 : Int)), .prop ((#[.nilFunc, .func (.func 38) #[] #[], .func (.func 39) #[] #[], .func (.func 41) #[] #[], .func (.func 43) #[] #[], .func (.func 44) #[] #[], .func (.func 45) #[] #[], .func (.func 47) #[] #[], .func (.func 48) #[] #[], .func (.func 49) #[] #[]] : Array Value)[Int.toNat kd * 1]? = some (.func (.func f) #[] #[]))])] [(23, .func (.func f) #[] #[]), (27, .agg #[.int .i64 (m : Nat), .int .i64 un, .int .u8 kd, .int .u16 A, .int .i64 N]), (6, .slice none 0 0)] (ak (okp (by omega) (okp hix ok0)) ak0) ?_
  refine Zqa (f := f) (args := #[.agg #[.int .i64 (m : Nat), .int .i64 un, .int .u8 kd, .int .u16 A, .int .i64 N]]) hcall (hK hs10) ?_
  rintro _ w16 ⟨ao13, co14, rfl, hs15⟩
  refine ⟨Zqo, ?_⟩
  refine Zqk [(9, .gen [])] [] [(6, .slice ao13 Lx.length co14)] ak0 ?_
  refine GoR.done (GoQ.thn (GoC.ret ?_))
  refine Zq1 (v := .slice ao13 Lx.length co14) ?_
  have hs17 : St w0 ((Cel b1 #[.int .u8 kd, .int .u16 A, .int .i64 N] 24) :: (Rd ao13 107 SV.cells dSV Lx) :: L) w16 := ((hs15.pull 0 rfl).pull 1 rfl)
  have hs18 : St w0 ((Rd ao13 107 SV.cells dSV Lx) :: L) w16 := hs17.drop 1
  exact ⟨ao13, co14, rfl, hs18⟩
end Go.Proofs.YtahmejhidelkbaaGreatDoor

/-! DsE -/
namespace Go.Proofs.YtahmejhidelkbaaGreatDoor
open Go.RowKit Go.Sx
set_option linter.unusedVariables false
set_option linter.unusedSimpArgs false
set_option linter.unnecessarySimpa false
set_option maxRecDepth 100000
theorem set_last {l : List SV} {k : Nat} (h : l.length = k) (x y : SV) : (l ++ [x]).set k y = l ++ [y] := by subst h; simp [List.set_append]
theorem getD_last {l : List SV} {k : Nat} (h : l.length = k) (x d : SV) : (l ++ [x]).getD k d = x := by subst h; simp [List.getD_eq_getElem?_getD]
theorem turn_odd {k : Nat} (h : k % 2 = 1) : turnAt k = ⟨4, (k : Int) / 2 + 1, 0, 0, 0⟩ := by unfold turnAt; rw [if_pos h]; congr 1
theorem turn_even {k : Nat} (h : ¬ k % 2 = 1) : turnAt k = ⟨3, (k : Int) / 2 + 1, 0, 0, 0⟩ := by unfold turnAt; rw [if_neg h]; congr 1
theorem shl_one {k : Nat} (h : k ≤ 11) : iShl .u16 1 (k : Int) = 2 ^ k := by
  have key : (List.range 12).all (fun k => decide (iShl .u16 1 ((k : Nat) : Int) = 2 ^ k)) = true := by kernel_rfl
  exact of_decide_eq_true (List.all_eq_true.1 key k (List.mem_range.2 (by omega)))
theorem pow_pos2 (k : Nat) : (0 : Int) < 2 ^ k := Int.pow_pos (by decide)
theorem div_name {p m q : Nat} (h : (p : Int) / (m : Int) = (q : Int)) : p / m = q := by
  have h2 : ((p / m : Nat) : Int) = (q : Int) := by rw [← h]; rfl
  exact Int.ofNat_inj.1 h2
theorem mod_name {p m q : Nat} (h : (p : Int) % (m : Int) = (q : Int)) : p % m = q := by
  have h2 : ((p % m : Nat) : Int) = (q : Int) := by rw [← h]; rfl
  exact Int.ofNat_inj.1 h2
theorem divNat {x y : Int} (hx : 0 ≤ x) (hy : 0 < y) : ∃ n : Nat, x / y = (n : Int) := ⟨(x / y).toNat, by have := Int.ediv_nonneg hx (Int.le_of_lt hy); omega⟩
def w16V (n : Int) : Array Value := #[.int .u16 n]
theorem w16VF : CellF w16V 1 := ⟨fun _ => rfl, fun _ => rfl⟩
theorem cut_at {A : Int} {m p x y : Nat} {vl : List Int} (h1 : p / m = x) (h2 : p % m = y) (hx : x < m) (hy : y < m) (hv : ∀ q, q < m → vl.getD (q + 1) 0 = bitA A q) : cutAt A m p = if (decide (((x : Nat) : Int) + 1 < ((y : Nat) : Int) + 1) && ((IntKind.u16.wrap (vl.getD (x + 1) 0 + vl.getD (y + 1) 0) : Int) == 1)) = true then [⟨8, (x : Int) + 1, (y : Int) + 1, 0, 0⟩] else [] := by
  unfold cutAt
  rw [h1, h2, hv x hx, hv y hy]
  have e : IntKind.u16.wrap (bitA A x + bitA A y) = bitA A x + bitA A y := by
    rcases bitA_cases A x with h | h <;> rcases bitA_cases A y with h' | h' <;> rw [h, h'] <;> rfl
  rw [e]
  by_cases hxy : x < y
  · by_cases hb : bitA A x + bitA A y = 1
    · rw [if_pos ⟨hxy, hb⟩, if_pos (by simp only [Bool.and_eq_true, decide_eq_true_eq, beq_iff_eq]; exact ⟨by omega, hb⟩)]
    · rw [if_neg (fun h => hb h.2), if_neg (by simp only [Bool.and_eq_true, decide_eq_true_eq, beq_iff_eq]; exact fun h => hb h.2)]
  · rw [if_neg (fun h => hxy h.1), if_neg (by simp only [Bool.and_eq_true, decide_eq_true_eq, beq_iff_eq]; exact fun h => by omega)]
theorem single2_spec {w0 w : World} {L : List Asn} (A : Int) (N : Int) (wh : Int) (hs : St w0 (L) w) : Calls Tryz.prog 18 #[.agg #[.int .u8 2, .int .u16 A, .int .i64 N], .int .i64 wh] w (Ret fun rv w' => rv = .tuple #[.agg (SV.cells (⟨9, 0, 0, 0, 0⟩ : SV)), .bool true] ∧ St w0 (L) w') := by
  refine enter (args := [.agg #[.int .u8 2, .int .u16 A, .int .i64 N], .int .i64 wh]) Tryz.func18 rfl Tryz.ntmps18 (Nat.le_of_ble_eq_true (by kernel_rfl)) ?_
  refine GoC.slots (S' := [(0, .agg #[.int .u8 2, .int .u16 A, .int .i64 N]), (1, .int .i64 wh)]) rfl ?_
  refine GoC.seq ?_
  refine Zqt (.ef 0 (.ef 1 (.rd 2 .done))) ?_
  refine GoR.box rfl rfl (by kernel_rfl) (v := .agg #[.int .u8 2, .int .u16 A, .int .i64 N]) (by kernel_rfl) hs (cs := #[.int .u8 2, .int .u16 A, .int .i64 N]) (by kernel_rfl) ?_
  intro b1 w2 hs3
  refine ⟨Zqo, ?_⟩
  refine GoR.alloc rfl rfl (by kernel_rfl) (z := svZ) (by kernel_rfl) hs3 (cs := SV.cells dSV) (by kernel_rfl) ?_
  intro b4 w5 hs6
  refine ⟨Zqo, ?_⟩
  refine Zqk [(2, .gen [])] [] [(5, .bool false), (4, vp b4 0), (2, vp b1 0), (1, .int .i64 wh)] ak0 ?_
  refine GoR.done (GoQ.thn (GoC.seq (GoC.seq ?_)))
  refine Zqt (.rd 0 (.rd 1 (.rd 2 .done))) ?_
  refine Zqk [(0, .gen []), (1, .gen [.int .u8 2]), (2, .gen [])] [(1, [.cell ⟨b1, 0, none⟩ (.int .u8 2)])] [(8, .bool true), (5, .bool false), (4, vp b4 0), (2, vp b1 0), (1, .int .i64 wh)] (ak (okc (hs6.cell 1 rfl (by kernel_rfl)) ok0) ak0) ?_
  refine GoR.done (GoQ.thn (ZqT (GoC.seq ?_)))
  refine Zqt (.rd 0 (.ef 1 (.rd 2 .done))) ?_
  refine Zqk [(0, .gen [])] [] [(9, .agg (SV.cells (⟨9, 0, 0, 0, 0⟩ : SV))), (5, .bool false), (4, vp b4 0), (2, vp b1 0), (1, .int .i64 wh)] ak0 ?_
  refine GoR.store rfl rfl (by kernel_rfl) (b := b4) (off := 0) (v := .agg (SV.cells (⟨9, 0, 0, 0, 0⟩ : SV))) (by kernel_rfl) (by kernel_rfl) (ti := Tryz.t50) (by kernel_rfl) hs6 0 rfl (by kernel_rfl) (by kernel_rfl) (Nat.le_of_ble_eq_true (by kernel_rfl)) (cs' := SV.cells (⟨9, 0, 0, 0, 0⟩ : SV)) (L' := (Cel b4 (SV.cells (⟨9, 0, 0, 0, 0⟩ : SV)) 50) :: (Cel b1 #[.int .u8 2, .int .u16 A, .int .i64 N] 29) :: L) (by kernel_rfl) rfl ?_
  intro w7 hs8
  refine ⟨Zqo, ?_⟩
  refine Zqk [(2, .gen [])] [] [(5, .bool true), (4, vp b4 0), (2, vp b1 0), (1, .int .i64 wh)] ak0 ?_
  refine GoR.done (GoQ.thn (GoC.ret (GoQ.skipCR ?_)))
  refine GoQ.done (.inl rfl) (v := .tuple #[.agg (SV.cells (⟨9, 0, 0, 0, 0⟩ : SV)), .bool true]) (fun a hf => resultsAV rfl (by kernel_rfl) (by kernel_rfl) (ti := Tryz.t50) (by kernel_rfl) (by kernel_rfl) (vs := (SV.cells (⟨9, 0, 0, 0, 0⟩ : SV))) (by kernel_rfl) (hs8.cells 0 0 rfl (by kernel_rfl)) a hf) ?_
  have hs9 : St w0 (L) w7 := hs8.drop 2
  exact ⟨rfl, hs9⟩
theorem single3_spec {w0 w : World} {L : List Asn} (A : Int) (N : Int) (wh : Int) (hs : St w0 (L) w) : Calls Tryz.prog 18 #[.agg #[.int .u8 3, .int .u16 A, .int .i64 N], .int .i64 wh] w (Ret fun rv w' => rv = .tuple #[.agg (SV.cells (⟨12, wh, 0, 0, 0⟩ : SV)), .bool true] ∧ St w0 (L) w') := by
  refine enter (args := [.agg #[.int .u8 3, .int .u16 A, .int .i64 N], .int .i64 wh]) Tryz.func18 rfl Tryz.ntmps18 (Nat.le_of_ble_eq_true (by kernel_rfl)) ?_
  refine GoC.slots (S' := [(0, .agg #[.int .u8 3, .int .u16 A, .int .i64 N]), (1, .int .i64 wh)]) rfl ?_
  refine GoC.seq ?_
  refine Zqt (.ef 0 (.ef 1 (.rd 2 .done))) ?_
  refine GoR.box rfl rfl (by kernel_rfl) (v := .agg #[.int .u8 3, .int .u16 A, .int .i64 N]) (by kernel_rfl) hs (cs := #[.int .u8 3, .int .u16 A, .int .i64 N]) (by kernel_rfl) ?_
  intro b1 w2 hs3
  refine ⟨Zqo, ?_⟩
  refine GoR.alloc rfl rfl (by kernel_rfl) (z := svZ) (by kernel_rfl) hs3 (cs := SV.cells dSV) (by kernel_rfl) ?_
  intro b4 w5 hs6
  refine ⟨Zqo, ?_⟩
  refine Zqk [(2, .gen [])] [] [(5, .bool false), (4, vp b4 0), (2, vp b1 0), (1, .int .i64 wh)] ak0 ?_
  refine GoR.done (GoQ.thn (GoC.seq (GoC.seq ?_)))
  refine Zqt (.rd 0 (.rd 1 (.rd 2 .done))) ?_
  refine Zqk [(0, .gen []), (1, .gen [.int .u8 3]), (2, .gen [])] [(1, [.cell ⟨b1, 0, none⟩ (.int .u8 3)])] [(8, .bool false), (5, .bool false), (4, vp b4 0), (2, vp b1 0), (1, .int .i64 wh)] (ak (okc (hs6.cell 1 rfl (by kernel_rfl)) ok0) ak0) ?_
  refine GoR.done (GoQ.thn (ZqF (GoC.skip (GoQ.thn (GoC.seq (GoC.seq ?_))))))
  refine Zqt (.rd 0 (.rd 1 (.rd 2 .done))) ?_
  refine Zqk [(0, .gen []), (1, .gen [.int .u8 3]), (2, .gen [])] [(1, [.cell ⟨b1, 0, none⟩ (.int .u8 3)])] [(12, .bool true), (5, .bool false), (4, vp b4 0), (2, vp b1 0), (1, .int .i64 wh)] (ak (okc (hs6.cell 1 rfl (by kernel_rfl)) ok0) ak0) ?_
  refine GoR.done (GoQ.thn (ZqT (GoC.seq ?_)))
  refine Zqt (.rd 0 (.rd 1 (.ef 2 (.rd 3 .done)))) ?_
  refine Zqk [(0, .gen []), (1, .gen [])] [] [(14, .agg (SV.cells (⟨12, wh, 0, 0, 0⟩ : SV))), (5, .bool false), (4, vp b4 0), (2, vp b1 0), (1, .int .i64 wh)] ak0 ?_
  refine GoR.store rfl rfl (by kernel_rfl) (b := b4) (off := 0) (v := .agg (SV.cells (⟨12, wh, 0, 0, 0⟩ : SV))) (by kernel_rfl) (by kernel_rfl) (ti := Tryz.t50) (by kernel_rfl) hs6 0 rfl (by kernel_rfl) (by kernel_rfl) (Nat.le_of_ble_eq_true (by kernel_rfl)) (cs' := SV.cells (⟨12, wh, 0, 0, 0⟩ : SV)) (L' := (Cel b4 (SV.cells (⟨12, wh, 0, 0, 0⟩ : SV)) 50) :: (Cel b1 #[.int .u8 3, .int .u16 A, .int .i64 N] 29) :: L) (by kernel_rfl) rfl ?_
  intro w7 hs8
  refine ⟨Zqo, ?_⟩
  refine Zqk [(3, .gen [])] [] [(5, .bool true), (4, vp b4 0), (2, vp b1 0), (1, .int .i64 wh)] ak0 ?_
  refine GoR.done (GoQ.thn (GoC.ret (GoQ.skipCR ?_)))
  refine GoQ.done (.inl rfl) (v := .tuple #[.agg (SV.cells (⟨12, wh, 0, 0, 0⟩ : SV)), .bool true]) (fun a hf => resultsAV rfl (by kernel_rfl) (by kernel_rfl) (ti := Tryz.t50) (by kernel_rfl) (by kernel_rfl) (vs := (SV.cells (⟨12, wh, 0, 0, 0⟩ : SV))) (by kernel_rfl) (hs8.cells 0 0 rfl (by kernel_rfl)) a hf) ?_
  have hs9 : St w0 (L) w7 := hs8.drop 2
  exact ⟨rfl, hs9⟩
theorem single4_spec {w0 w : World} {L : List Asn} (A : Int) (N : Int) (wh : Int) (hs : St w0 (L) w) : Calls Tryz.prog 18 #[.agg #[.int .u8 4, .int .u16 A, .int .i64 N], .int .i64 wh] w (Ret fun rv w' => rv = .tuple #[.agg (SV.cells (⟨13, wh, 0, 0, 0⟩ : SV)), .bool true] ∧ St w0 (L) w') := by
  refine enter (args := [.agg #[.int .u8 4, .int .u16 A, .int .i64 N], .int .i64 wh]) Tryz.func18 rfl Tryz.ntmps18 (Nat.le_of_ble_eq_true (by kernel_rfl)) ?_
  refine GoC.slots (S' := [(0, .agg #[.int .u8 4, .int .u16 A, .int .i64 N]), (1, .int .i64 wh)]) rfl ?_
  refine GoC.seq ?_
  refine Zqt (.ef 0 (.ef 1 (.rd 2 .done))) ?_
  refine GoR.box rfl rfl (by kernel_rfl) (v := .agg #[.int .u8 4, .int .u16 A, .int .i64 N]) (by kernel_rfl) hs (cs := #[.int .u8 4, .int .u16 A, .int .i64 N]) (by kernel_rfl) ?_
  intro b1 w2 hs3
  refine ⟨Zqo, ?_⟩
  refine GoR.alloc rfl rfl (by kernel_rfl) (z := svZ) (by kernel_rfl) hs3 (cs := SV.cells dSV) (by kernel_rfl) ?_
  intro b4 w5 hs6
  refine ⟨Zqo, ?_⟩
  refine Zqk [(2, .gen [])] [] [(5, .bool false), (4, vp b4 0), (2, vp b1 0), (1, .int .i64 wh)] ak0 ?_
  refine GoR.done (GoQ.thn (GoC.seq (GoC.seq ?_)))
  refine Zqt (.rd 0 (.rd 1 (.rd 2 .done))) ?_
  refine Zqk [(0, .gen []), (1, .gen [.int .u8 4]), (2, .gen [])] [(1, [.cell ⟨b1, 0, none⟩ (.int .u8 4)])] [(8, .bool false), (5, .bool false), (4, vp b4 0), (2, vp b1 0), (1, .int .i64 wh)] (ak (okc (hs6.cell 1 rfl (by kernel_rfl)) ok0) ak0) ?_
  refine GoR.done (GoQ.thn (ZqF (GoC.skip (GoQ.thn (GoC.seq (GoC.seq ?_))))))
  refine Zqt (.rd 0 (.rd 1 (.rd 2 .done))) ?_
  refine Zqk [(0, .gen []), (1, .gen [.int .u8 4]), (2, .gen [])] [(1, [.cell ⟨b1, 0, none⟩ (.int .u8 4)])] [(12, .bool false), (5, .bool false), (4, vp b4 0), (2, vp b1 0), (1, .int .i64 wh)] (ak (okc (hs6.cell 1 rfl (by kernel_rfl)) ok0) ak0) ?_
  refine GoR.done (GoQ.thn (ZqF (GoC.skip (GoQ.thn (GoC.seq (GoC.seq ?_))))))
  refine Zqt (.rd 0 (.rd 1 (.rd 2 .done))) ?_
  refine Zqk [(0, .gen []), (1, .gen [.int .u8 4]), (2, .gen [])] [(1, [.cell ⟨b1, 0, none⟩ (.int .u8 4)])] [(17, .bool true), (5, .bool false), (4, vp b4 0), (2, vp b1 0), (1, .int .i64 wh)] (ak (okc (hs6.cell 1 rfl (by kernel_rfl)) ok0) ak0) ?_
  refine GoR.done (GoQ.thn (ZqT (GoC.seq ?_)))
  refine Zqt (.rd 0 (.rd 1 (.ef 2 (.rd 3 .done)))) ?_
  refine Zqk [(0, .gen []), (1, .gen [])] [] [(19, .agg (SV.cells (⟨13, wh, 0, 0, 0⟩ : SV))), (5, .bool false), (4, vp b4 0), (2, vp b1 0), (1, .int .i64 wh)] ak0 ?_
  refine GoR.store rfl rfl (by kernel_rfl) (b := b4) (off := 0) (v := .agg (SV.cells (⟨13, wh, 0, 0, 0⟩ : SV))) (by kernel_rfl) (by kernel_rfl) (ti := Tryz.t50) (by kernel_rfl) hs6 0 rfl (by kernel_rfl) (by kernel_rfl) (Nat.le_of_ble_eq_true (by kernel_rfl)) (cs' := SV.cells (⟨13, wh, 0, 0, 0⟩ : SV)) (L' := (Cel b4 (SV.cells (⟨13, wh, 0, 0, 0⟩ : SV)) 50) :: (Cel b1 #[.int .u8 4, .int .u16 A, .int .i64 N] 29) :: L) (by kernel_rfl) rfl ?_
  intro w7 hs8
  refine ⟨Zqo, ?_⟩
  refine Zqk [(3, .gen [])] [] [(5, .bool true), (4, vp b4 0), (2, vp b1 0), (1, .int .i64 wh)] ak0 ?_
  refine GoR.done (GoQ.thn (GoC.ret (GoQ.skipCR ?_)))
  refine GoQ.done (.inl rfl) (v := .tuple #[.agg (SV.cells (⟨13, wh, 0, 0, 0⟩ : SV)), .bool true]) (fun a hf => resultsAV rfl (by kernel_rfl) (by kernel_rfl) (ti := Tryz.t50) (by kernel_rfl) (by kernel_rfl) (vs := (SV.cells (⟨13, wh, 0, 0, 0⟩ : SV))) (by kernel_rfl) (hs8.cells 0 0 rfl (by kernel_rfl)) a hf) ?_
  have hs9 : St w0 (L) w7 := hs8.drop 2
  exact ⟨rfl, hs9⟩
theorem single5_spec {w0 w : World} {L : List Asn} (A : Int) (N : Int) (wh : Int) (hs : St w0 (L) w) : Calls Tryz.prog 18 #[.agg #[.int .u8 5, .int .u16 A, .int .i64 N], .int .i64 wh] w (Ret fun rv w' => rv = .tuple #[.agg (SV.cells (⟨11, wh, 0, 0, N⟩ : SV)), .bool true] ∧ St w0 (L) w') := by
  refine enter (args := [.agg #[.int .u8 5, .int .u16 A, .int .i64 N], .int .i64 wh]) Tryz.func18 rfl Tryz.ntmps18 (Nat.le_of_ble_eq_true (by kernel_rfl)) ?_
  refine GoC.slots (S' := [(0, .agg #[.int .u8 5, .int .u16 A, .int .i64 N]), (1, .int .i64 wh)]) rfl ?_
  refine GoC.seq ?_
  refine Zqt (.ef 0 (.ef 1 (.rd 2 .done))) ?_
  refine GoR.box rfl rfl (by kernel_rfl) (v := .agg #[.int .u8 5, .int .u16 A, .int .i64 N]) (by kernel_rfl) hs (cs := #[.int .u8 5, .int .u16 A, .int .i64 N]) (by kernel_rfl) ?_
  intro b1 w2 hs3
  refine ⟨Zqo, ?_⟩
  refine GoR.alloc rfl rfl (by kernel_rfl) (z := svZ) (by kernel_rfl) hs3 (cs := SV.cells dSV) (by kernel_rfl) ?_
  intro b4 w5 hs6
  refine ⟨Zqo, ?_⟩
  refine Zqk [(2, .gen [])] [] [(5, .bool false), (4, vp b4 0), (2, vp b1 0), (1, .int .i64 wh)] ak0 ?_
  refine GoR.done (GoQ.thn (GoC.seq (GoC.seq ?_)))
  refine Zqt (.rd 0 (.rd 1 (.rd 2 .done))) ?_
  refine Zqk [(0, .gen []), (1, .gen [.int .u8 5]), (2, .gen [])] [(1, [.cell ⟨b1, 0, none⟩ (.int .u8 5)])] [(8, .bool false), (5, .bool false), (4, vp b4 0), (2, vp b1 0), (1, .int .i64 wh)] (ak (okc (hs6.cell 1 rfl (by kernel_rfl)) ok0) ak0) ?_
  refine GoR.done (GoQ.thn (ZqF (GoC.skip (GoQ.thn (GoC.seq (GoC.seq ?_))))))
  refine Zqt (.rd 0 (.rd 1 (.rd 2 .done))) ?_
  refine Zqk [(0, .gen []), (1, .gen [.int .u8 5]), (2, .gen [])] [(1, [.cell ⟨b1, 0, none⟩ (.int .u8 5)])] [(12, .bool false), (5, .bool false), (4, vp b4 0), (2, vp b1 0), (1, .int .i64 wh)] (ak (okc (hs6.cell 1 rfl (by kernel_rfl)) ok0) ak0) ?_
  refine GoR.done (GoQ.thn (ZqF (GoC.skip (GoQ.thn (GoC.seq (GoC.seq ?_))))))
  refine Zqt (.rd 0 (.rd 1 (.rd 2 .done))) ?_
  refine Zqk [(0, .gen []), (1, .gen [.int .u8 5]), (2, .gen [])] [(1, [.cell ⟨b1, 0, none⟩ (.int .u8 5)])] [(17, .bool false), (5, .bool false), (4, vp b4 0), (2, vp b1 0), (1, .int .i64 wh)] (ak (okc (hs6.cell 1 rfl (by kernel_rfl)) ok0) ak0) ?_
  refine GoR.done (GoQ.thn (ZqF (GoC.skip (GoQ.thn (GoC.seq (GoC.seq ?_))))))
  refine Zqt (.rd 0 (.rd 1 (.rd 2 .done))) ?_
  refine Zqk [(0, .gen []), (1, .gen [.int .u8 5]), (2, .gen [])] [(1, [.cell ⟨b1, 0, none⟩ (.int .u8 5)])] [(22, .bool true), (5, .bool false), (4, vp b4 0), (2, vp b1 0), (1, .int .i64 wh)] (ak (okc (hs6.cell 1 rfl (by kernel_rfl)) ok0) ak0) ?_
  refine GoR.done (GoQ.thn (ZqT (GoC.seq ?_)))
  refine Zqt (.rd 0 (.rd 1 (.rd 2 (.rd 3 (.ef 4 (.rd 5 .done)))))) ?_
  refine Zqk [(0, .gen []), (1, .gen []), (2, .gen [.int .i64 N]), (3, .gen [])] [(2, [.cell ⟨b1, 2, none⟩ (.int .i64 N)])] [(26, .agg (SV.cells (⟨11, wh, 0, 0, N⟩ : SV))), (5, .bool false), (4, vp b4 0), (2, vp b1 0)] (ak (okc (hs6.cell 1 rfl (by kernel_rfl)) ok0) ak0) ?_
  refine GoR.store rfl rfl (by kernel_rfl) (b := b4) (off := 0) (v := .agg (SV.cells (⟨11, wh, 0, 0, N⟩ : SV))) (by kernel_rfl) (by kernel_rfl) (ti := Tryz.t50) (by kernel_rfl) hs6 0 rfl (by kernel_rfl) (by kernel_rfl) (Nat.le_of_ble_eq_true (by kernel_rfl)) (cs' := SV.cells (⟨11, wh, 0, 0, N⟩ : SV)) (L' := (Cel b4 (SV.cells (⟨11, wh, 0, 0, N⟩ : SV)) 50) :: (Cel b1 #[.int .u8 5, .int .u16 A, .int .i64 N] 29) :: L) (by kernel_rfl) rfl ?_
  intro w7 hs8
  refine ⟨Zqo, ?_⟩
  refine Zqk [(5, .gen [])] [] [(5, .bool true), (4, vp b4 0), (2, vp b1 0)] ak0 ?_
  refine GoR.done (GoQ.thn (GoC.ret (GoQ.skipCR ?_)))
  refine GoQ.done (.inl rfl) (v := .tuple #[.agg (SV.cells (⟨11, wh, 0, 0, N⟩ : SV)), .bool true]) (fun a hf => resultsAV rfl (by kernel_rfl) (by kernel_rfl) (ti := Tryz.t50) (by kernel_rfl) (by kernel_rfl) (vs := (SV.cells (⟨11, wh, 0, 0, N⟩ : SV))) (by kernel_rfl) (hs8.cells 0 0 rfl (by kernel_rfl)) a hf) ?_
  have hs9 : St w0 (L) w7 := hs8.drop 2
  exact ⟨rfl, hs9⟩
theorem single8_spec {w0 w : World} {L : List Asn} (A : Int) (N : Int) (wh : Int) (hs : St w0 (L) w) : Calls Tryz.prog 18 #[.agg #[.int .u8 8, .int .u16 A, .int .i64 N], .int .i64 wh] w (Ret fun rv w' => rv = .tuple #[.agg (SV.cells (⟨10, 0, 0, 0, N⟩ : SV)), .bool true] ∧ St w0 (L) w') := by
  refine enter (args := [.agg #[.int .u8 8, .int .u16 A, .int .i64 N], .int .i64 wh]) Tryz.func18 rfl Tryz.ntmps18 (Nat.le_of_ble_eq_true (by kernel_rfl)) ?_
  refine GoC.slots (S' := [(0, .agg #[.int .u8 8, .int .u16 A, .int .i64 N]), (1, .int .i64 wh)]) rfl ?_
  refine GoC.seq ?_
  refine Zqt (.ef 0 (.ef 1 (.rd 2 .done))) ?_
  refine GoR.box rfl rfl (by kernel_rfl) (v := .agg #[.int .u8 8, .int .u16 A, .int .i64 N]) (by kernel_rfl) hs (cs := #[.int .u8 8, .int .u16 A, .int .i64 N]) (by kernel_rfl) ?_
  intro b1 w2 hs3
  refine ⟨Zqo, ?_⟩
  refine GoR.alloc rfl rfl (by kernel_rfl) (z := svZ) (by kernel_rfl) hs3 (cs := SV.cells dSV) (by kernel_rfl) ?_
  intro b4 w5 hs6
  refine ⟨Zqo, ?_⟩
  refine Zqk [(2, .gen [])] [] [(5, .bool false), (4, vp b4 0), (2, vp b1 0), (1, .int .i64 wh)] ak0 ?_
  refine GoR.done (GoQ.thn (GoC.seq (GoC.seq ?_)))
  refine Zqt (.rd 0 (.rd 1 (.rd 2 .done))) ?_
  refine Zqk [(0, .gen []), (1, .gen [.int .u8 8]), (2, .gen [])] [(1, [.cell ⟨b1, 0, none⟩ (.int .u8 8)])] [(8, .bool false), (5, .bool false), (4, vp b4 0), (2, vp b1 0), (1, .int .i64 wh)] (ak (okc (hs6.cell 1 rfl (by kernel_rfl)) ok0) ak0) ?_
  refine GoR.done (GoQ.thn (ZqF (GoC.skip (GoQ.thn (GoC.seq (GoC.seq ?_))))))
  refine Zqt (.rd 0 (.rd 1 (.rd 2 .done))) ?_
  refine Zqk [(0, .gen []), (1, .gen [.int .u8 8]), (2, .gen [])] [(1, [.cell ⟨b1, 0, none⟩ (.int .u8 8)])] [(12, .bool false), (5, .bool false), (4, vp b4 0), (2, vp b1 0), (1, .int .i64 wh)] (ak (okc (hs6.cell 1 rfl (by kernel_rfl)) ok0) ak0) ?_
  refine GoR.done (GoQ.thn (ZqF (GoC.skip (GoQ.thn (GoC.seq (GoC.seq ?_))))))
  refine Zqt (.rd 0 (.rd 1 (.rd 2 .done))) ?_
  refine Zqk [(0, .gen []), (1, .gen [.int .u8 8]), (2, .gen [])] [(1, [.cell ⟨b1, 0, none⟩ (.int .u8 8)])] [(17, .bool false), (5, .bool false), (4, vp b4 0), (2, vp b1 0), (1, .int .i64 wh)] (ak (okc (hs6.cell 1 rfl (by kernel_rfl)) ok0) ak0) ?_
  refine GoR.done (GoQ.thn (ZqF (GoC.skip (GoQ.thn (GoC.seq (GoC.seq ?_))))))
  refine Zqt (.rd 0 (.rd 1 (.rd 2 .done))) ?_
  refine Zqk [(0, .gen []), (1, .gen [.int .u8 8]), (2, .gen [])] [(1, [.cell ⟨b1, 0, none⟩ (.int .u8 8)])] [(22, .bool false), (5, .bool false), (4, vp b4 0), (2, vp b1 0), (1, .int .i64 wh)] (ak (okc (hs6.cell 1 rfl (by kernel_rfl)) ok0) ak0) ?_
  refine GoR.done (GoQ.thn (ZqF (GoC.skip (GoQ.thn (GoC.seq ?_)))))
  refine GoC.regD [0, 1, 3, 0, 8, 24, 7, 127] (.rd 0 (.rd 1 (.rd 2 (.rd 3 (.rd 4 (.rd 5 (.ef 6 (.rd 7 .done)))))))) (by kernel_rfl) (by kernel_rfl) noPan_body (by kernel_rfl) hs6 ?_
  intro w7 hs8 hw9
  refine Zqk [(0, .gen []), (1, .gen [.int .i64 N]), (2, .gen []), (3, .gen []), (4, .gen [.int .u8 8]), (5, .gen [])] [(1, [.cell ⟨b1, 2, none⟩ (.int .i64 N)]), (4, [.cell ⟨b1, 0, none⟩ (.int .u8 8)])] [(32, .bool true), (29, .agg (SV.cells (⟨10, 0, 0, 0, N⟩ : SV))), (5, .bool false), (4, vp b4 0)] (ak (okc (hs8.cell 1 rfl (by kernel_rfl)) ok0) (ak (okc (hs8.cell 1 rfl (by kernel_rfl)) ok0) ak0)) ?_
  refine GoR.store rfl rfl (by kernel_rfl) (b := b4) (off := 0) (v := .agg (SV.cells (⟨10, 0, 0, 0, N⟩ : SV))) (by kernel_rfl) (by kernel_rfl) (ti := Tryz.t50) (by kernel_rfl) hs8 0 rfl (by kernel_rfl) (by kernel_rfl) (Nat.le_of_ble_eq_true (by kernel_rfl)) (cs' := SV.cells (⟨10, 0, 0, 0, N⟩ : SV)) (L' := (Cel b4 (SV.cells (⟨10, 0, 0, 0, N⟩ : SV)) 50) :: (Cel b1 #[.int .u8 8, .int .u16 A, .int .i64 N] 29) :: L) (by kernel_rfl) rfl ?_
  intro w10 hs11
  refine ⟨(opl (n := [.cell ⟨b1, 0, none⟩ (.int .u8 8)]) (by kernel_rfl) (okc (hs11.cell 1 rfl (by kernel_rfl)) ok0)), ?_⟩
  refine Zqk [(7, .gen [])] [] [(5, .bool true), (4, vp b4 0)] ak0 ?_
  refine GoR.done (GoQ.thn (GoC.ret ?_))
  refine GoQ.done (.inl rfl) (v := .tuple #[.agg (SV.cells (⟨10, 0, 0, 0, N⟩ : SV)), .bool true]) (fun a hf => resultsAV rfl (by kernel_rfl) (by kernel_rfl) (ti := Tryz.t50) (by kernel_rfl) (by kernel_rfl) (vs := (SV.cells (⟨10, 0, 0, 0, N⟩ : SV))) (by kernel_rfl) (hs11.cells 0 0 rfl (by kernel_rfl)) a hf) ?_
  have hs12 : St w0 (L) w10 := hs11.drop 2
  exact ⟨rfl, hs12⟩
theorem singleO_spec {w0 w : World} {L : List Asn} (kd : Int) (A : Int) (N : Int) (wh : Int) (hks : kd ≠ 2 ∧ kd ≠ 3 ∧ kd ≠ 4 ∧ kd ≠ 5 ∧ kd ≠ 8) (hs : St w0 (L) w) : Calls Tryz.prog 18 #[.agg #[.int .u8 kd, .int .u16 A, .int .i64 N], .int .i64 wh] w (Ret fun rv w' => rv = .tuple #[.agg (SV.cells (⟨10, 0, 0, 0, N⟩ : SV)), .bool false] ∧ St w0 (L) w') := by
  refine enter (args := [.agg #[.int .u8 kd, .int .u16 A, .int .i64 N], .int .i64 wh]) Tryz.func18 rfl Tryz.ntmps18 (Nat.le_of_ble_eq_true (by kernel_rfl)) ?_
  refine GoC.slots (S' := [(0, .agg #[.int .u8 kd, .int .u16 A, .int .i64 N]), (1, .int .i64 wh)]) rfl ?_
  refine GoC.seq ?_
  refine Zqt (.ef 0 (.ef 1 (.rd 2 .done))) ?_
  refine GoR.box rfl rfl (by kernel_rfl) (v := .agg #[.int .u8 kd, .int .u16 A, .int .i64 N]) (by kernel_rfl) hs (cs := #[.int .u8 kd, .int .u16 A, .int .i64 N]) (by kernel_rfl) ?_
  intro b1 w2 hs3
  refine ⟨Zqo, ?_⟩
  refine GoR.alloc rfl rfl (by kernel_rfl) (z := svZ) (by kernel_rfl) hs3 (cs := SV.cells dSV) (by kernel_rfl) ?_
  intro b4 w5 hs6
  refine ⟨Zqo, ?_⟩
  refine Zqk [(2, .gen [])] [] [(5, .bool false), (4, vp b4 0), (2, vp b1 0), (1, .int .i64 wh)] ak0 ?_
  refine GoR.done (GoQ.thn (GoC.seq (GoC.seq ?_)))
  refine Zqt (.rd 0 (.rd 1 (.rd 2 .done))) ?_
  refine Zqk [(0, .gen []), (1, .gen [.int .u8 kd]), (2, .gen [])] [(1, [.cell ⟨b1, 0, none⟩ (.int .u8 kd)])] [(8, .bool ((kd : Int) == 2)), (5, .bool false), (4, vp b4 0), (2, vp b1 0), (1, .int .i64 wh)] (ak (okc (hs6.cell 1 rfl (by kernel_rfl)) ok0) ak0) ?_
  refine GoR.done (GoQ.thn ?_)
  refine Zqc (t := (kd : Int) == 2) (fun h7 => ?_) (fun h7 => ?_)
  · have h7' : (kd : Int) = 2 := ieqT h7
    exfalso
    have hx := h7
    simp only [Bool.and_eq_true, Bool.or_eq_true, decide_eq_true_eq, beq_iff_eq] at hx
    omega
  · have h7' : ¬ ((kd : Int) = 2) := ieqF h7
    refine GoC.skip (GoQ.thn (GoC.seq (GoC.seq ?_)))
    refine Zqt (.rd 0 (.rd 1 (.rd 2 .done))) ?_
    refine Zqk [(0, .gen []), (1, .gen [.int .u8 kd]), (2, .gen [])] [(1, [.cell ⟨b1, 0, none⟩ (.int .u8 kd)])] [(12, .bool ((kd : Int) == 3)), (5, .bool false), (4, vp b4 0), (2, vp b1 0), (1, .int .i64 wh)] (ak (okc (hs6.cell 1 rfl (by kernel_rfl)) ok0) ak0) ?_
    refine GoR.done (GoQ.thn ?_)
    refine Zqc (t := (kd : Int) == 3) (fun h8 => ?_) (fun h8 => ?_)
    · have h8' : (kd : Int) = 3 := ieqT h8
      exfalso
      have hx := h8
      simp only [Bool.and_eq_true, Bool.or_eq_true, decide_eq_true_eq, beq_iff_eq] at hx
      omega
    · have h8' : ¬ ((kd : Int) = 3) := ieqF h8
      refine GoC.skip (GoQ.thn (GoC.seq (GoC.seq ?_)))
      refine Zqt (.rd 0 (.rd 1 (.rd 2 .done))) ?_
      refine Zqk [(0, .gen []), (1, .gen [.int .u8 kd]), (2, .gen [])] [(1, [.cell ⟨b1, 0, none⟩ (.int .u8 kd)])] [(17, .bool ((kd : Int) == 4)), (5, .bool false), (4, vp b4 0), (2, vp b1 0), (1, .int .i64 wh)] (ak (okc (hs6.cell 1 rfl (by kernel_rfl)) ok0) ak0) ?_
      refine GoR.done (GoQ.thn ?_)
      refine Zqc (t := (kd : Int) == 4) (fun h9 => ?_) (fun h9 => ?_)
      · have h9' : (kd : Int) = 4 := ieqT h9
        exfalso
        have hx := h9
        simp only [Bool.and_eq_true, Bool.or_eq_true, decide_eq_true_eq, beq_iff_eq] at hx
        omega
      · have h9' : ¬ ((kd : Int) = 4) := ieqF h9
        refine GoC.skip (GoQ.thn (GoC.seq (GoC.seq ?_)))
        refine Zqt (.rd 0 (.rd 1 (.rd 2 .done))) ?_
        refine Zqk [(0, .gen []), (1, .gen [.int .u8 kd]), (2, .gen [])] [(1, [.cell ⟨b1, 0, none⟩ (.int .u8 kd)])] [(22, .bool ((kd : Int) == 5)), (5, .bool false), (4, vp b4 0), (2, vp b1 0), (1, .int .i64 wh)] (ak (okc (hs6.cell 1 rfl (by kernel_rfl)) ok0) ak0) ?_
        refine GoR.done (GoQ.thn ?_)
        refine Zqc (t := (kd : Int) == 5) (fun h10 => ?_) (fun h10 => ?_)
        · have h10' : (kd : Int) = 5 := ieqT h10
          exfalso
          have hx := h10
          simp only [Bool.and_eq_true, Bool.or_eq_true, decide_eq_true_eq, beq_iff_eq] at hx
          omega
        · have h10' : ¬ ((kd : Int) = 5) := ieqF h10
          refine GoC.skip (GoQ.thn (GoC.seq ?_))
          refine GoC.regD [0, 1, 3, 0, 8, 24, 7, 127] (.rd 0 (.rd 1 (.rd 2 (.rd 3 (.rd 4 (.rd 5 (.ef 6 (.rd 7 .done)))))))) (by kernel_rfl) (by kernel_rfl) noPan_body (by kernel_rfl) hs6 ?_
          intro w11 hs12 hw13
          refine Zqk [(0, .gen []), (1, .gen [.int .i64 N]), (2, .gen []), (3, .gen []), (4, .gen [.int .u8 kd]), (5, .gen [])] [(1, [.cell ⟨b1, 2, none⟩ (.int .i64 N)]), (4, [.cell ⟨b1, 0, none⟩ (.int .u8 kd)])] [(32, .bool ((kd : Int) == 8)), (29, .agg (SV.cells (⟨10, 0, 0, 0, N⟩ : SV))), (5, .bool false), (4, vp b4 0)] (ak (okc (hs12.cell 1 rfl (by kernel_rfl)) ok0) (ak (okc (hs12.cell 1 rfl (by kernel_rfl)) ok0) ak0)) ?_
          refine GoR.store rfl rfl (by kernel_rfl) (b := b4) (off := 0) (v := .agg (SV.cells (⟨10, 0, 0, 0, N⟩ : SV))) (by kernel_rfl) (by kernel_rfl) (ti := Tryz.t50) (by kernel_rfl) hs12 0 rfl (by kernel_rfl) (by kernel_rfl) (Nat.le_of_ble_eq_true (by kernel_rfl)) (cs' := SV.cells (⟨10, 0, 0, 0, N⟩ : SV)) (L' := (Cel b4 (SV.cells (⟨10, 0, 0, 0, N⟩ : SV)) 50) :: (Cel b1 #[.int .u8 kd, .int .u16 A, .int .i64 N] 29) :: L) (by kernel_rfl) rfl ?_
          intro w14 hs15
          refine ⟨(opl (n := [.cell ⟨b1, 0, none⟩ (.int .u8 kd)]) (by kernel_rfl) (okc (hs15.cell 1 rfl (by kernel_rfl)) ok0)), ?_⟩
          refine Zqk [(7, .gen [])] [] [(5, .bool ((kd : Int) == 8)), (4, vp b4 0)] ak0 ?_
          refine GoR.done (GoQ.thn (GoC.ret ?_))
          refine GoQ.done (.inl rfl) (v := .tuple #[.agg (SV.cells (⟨10, 0, 0, 0, N⟩ : SV)), .bool ((kd : Int) == 8)]) (fun a hf => resultsAV rfl (by kernel_rfl) (by kernel_rfl) (ti := Tryz.t50) (by kernel_rfl) (by kernel_rfl) (vs := (SV.cells (⟨10, 0, 0, 0, N⟩ : SV))) (by kernel_rfl) (hs15.cells 0 0 rfl (by kernel_rfl)) a hf) ?_
          have hs16 : St w0 (L) w14 := hs15.drop 2
          exact ⟨(by rw [show ((kd : Int) == 8) = false from by rw [beq_eq_false_iff_ne]; omega]), hs16⟩
theorem mm_bounds {m : Nat} (h : m ≤ 11) : 0 ≤ ((m : Nat) : Int) * ((m : Nat) : Int) ∧ ((m : Nat) : Int) * ((m : Nat) : Int) ≤ 121 := by
  have h1 := Nat.mul_le_mul h h
  have h2 : ((m : Nat) : Int) * ((m : Nat) : Int) = ((m * m : Nat) : Int) := (Int.natCast_mul m m).symm
  omega
theorem cuts_spec {w0 w : World} {L : List Asn} (m : Nat) (kd : Int) (A : Int) (N : Int) (hm : 3 ≤ m ∧ m ≤ 11) (hA : 0 ≤ A ∧ A ≤ 65535) (hmm : 0 ≤ ((m : Nat) : Int) * ((m : Nat) : Int) ∧ ((m : Nat) : Int) * ((m : Nat) : Int) ≤ 121) (hs : St w0 (L) w) : Calls Tryz.prog 19 #[.agg #[.int .u8 kd, .int .u16 A, .int .i64 N], .int .i64 (m : Nat)] w (Ret fun rv w' => ∃ (ao : Option Addr) (co : Nat), rv = .slice ao ((cutsL A m).length) co ∧ St w0 ((Rd ao 107 SV.cells dSV (cutsL A m)) :: L) w') := by
  refine enter (args := [.agg #[.int .u8 kd, .int .u16 A, .int .i64 N], .int .i64 (m : Nat)]) Tryz.func19 rfl Tryz.ntmps19 (Nat.le_of_ble_eq_true (by kernel_rfl)) ?_
  refine GoC.slots (S' := [(0, .agg #[.int .u8 kd, .int .u16 A, .int .i64 N]), (1, .int .i64 (m : Nat))]) rfl ?_
  refine GoC.seq ?_
  refine Zqt (.ef 0 (.rd 1 .done)) ?_
  refine GoR.box rfl rfl (by kernel_rfl) (v := .agg #[.int .u8 kd, .int .u16 A, .int .i64 N]) (by kernel_rfl) hs (cs := #[.int .u8 kd, .int .u16 A, .int .i64 N]) (by kernel_rfl) ?_
  intro b1 w2 hs3
  refine ⟨Zqo, ?_⟩
  refine Zqk [(1, .gen [])] [] [(4, .slice none 0 0), (2, vp b1 0), (1, .int .i64 (m : Nat))] ak0 ?_
  refine GoR.done (GoQ.thn (GoC.seq ?_))
  refine Zqt (.ef 0 .done) ?_
  refine GoR.alloc rfl rfl (by kernel_rfl) (z := .agg #[.int .u16 0, .int .u16 0, .int .u16 0, .int .u16 0, .int .u16 0, .int .u16 0, .int .u16 0, .int .u16 0, .int .u16 0, .int .u16 0, .int .u16 0, .int .u16 0]) (by kernel_rfl) hs3 (cs := #[.int .u16 0, .int .u16 0, .int .u16 0, .int .u16 0, .int .u16 0, .int .u16 0, .int .u16 0, .int .u16 0, .int .u16 0, .int .u16 0, .int .u16 0, .int .u16 0]) (by kernel_rfl) ?_
  intro b4 w5 hs6
  refine ⟨Zqo, ?_⟩
  refine GoR.done (GoQ.thn (GoC.seq (GoC.seq ?_)))
  refine Zqt (.rd 0 .done) ?_
  refine Zqk [(0, .gen [])] [] [(6, .int .i64 1), (5, vp b4 0), (4, .slice none 0 0), (2, vp b1 0), (1, .int .i64 (m : Nat))] ak0 ?_
  refine GoR.done (GoQ.thn (GoC.block ?_))
  have hs7 : St w0 ((Cel b4 (arrCells w16V (List.replicate 12 0)) 112) :: (Cel b1 #[.int .u8 kd, .int .u16 A, .int .i64 N] 29) :: L) w5 := Eq.mp (by kernel_rfl) hs6
  refine GoC.loop (T := Nat × (List Int)) (fun gg => [(1, .int .i64 (m : Nat)), (2, vp b1 0), (4, .slice none 0 0), (5, vp b4 0), (6, .int .i64 ((gg.1 : Nat) + 1))]) (fun gg w => (gg.1 ≤ m ∧ gg.2.length = 12 ∧ ∀ q, q < gg.1 → gg.2.getD (q + 1) 0 = bitA A q) ∧ St w0 ((Cel b4 (arrCells w16V gg.2) 112) :: (Cel b1 #[.int .u8 kd, .int .u16 A, .int .i64 N] 29) :: L) w) (fun gg => m - gg.1) (0, (List.replicate 12 0)) [1, 2, 4, 5, 6] (by kernel_rfl) ⟨⟨Nat.zero_le _, rfl, fun q hq => absurd hq (Nat.not_lt_zero _)⟩, hs7⟩ ?_
  rintro ⟨k1, v1⟩ w8 ⟨hpa0, hs9⟩
  have hpa : k1 ≤ m ∧ v1.length = 12 ∧ ∀ q, q < k1 → v1.getD (q + 1) 0 = bitA A q := hpa0
  have hs10 : St w0 ((Cel b4 (arrCells w16V v1) 112) :: (Cel b1 #[.int .u8 kd, .int .u16 A, .int .i64 N] 29) :: L) w8 := hs9
  refine GoC.slots (S' := [(1, .int .i64 (m : Nat)), (2, vp b1 0), (4, .slice none 0 0), (5, vp b4 0), (6, .int .i64 ((k1 : Nat) + 1))]) rfl ?_
  refine GoC.seq (GoC.seq ?_)
  refine Zqt (.rd 0 (.rd 1 (.rd 2 .done))) ?_
  refine Zqk [(0, .gen []), (1, .gen []), (2, .gen [])] [] [(13, .bool (decide (((k1 : Nat) + 1 : Int) ≤ (m : Nat)))), (1, .int .i64 (m : Nat)), (2, vp b1 0), (4, .slice none 0 0), (5, vp b4 0), (6, .int .i64 ((k1 : Nat) + 1))] ak0 ?_
  refine GoR.done (GoQ.thn ?_)
  refine Zqc (t := decide (((k1 : Nat) + 1 : Int) ≤ (m : Nat))) (fun h11 => ?_) (fun h11 => ?_)
  · have h11' : ((k1 : Nat) + 1 : Int) ≤ (m : Nat) := of_decide_eq_true h11
    refine GoC.skip (GoQ.thn (GoC.seq (GoC.block ?_)))
    have hsh : iShl .u16 1 (k1 : Nat) = 2 ^ k1 := shl_one (by omega)
    have hsh2 : 0 < iShl .u16 1 (k1 : Nat) := by rw [hsh]; exact pow_pos2 k1
    have hdn : 0 ≤ A / (iShl .u16 1 (k1 : Nat)) := Int.ediv_nonneg (by omega) (by omega)
    have hdl : A / (iShl .u16 1 (k1 : Nat)) ≤ A := Int.ediv_le_self _ (by omega)
    refine Zqt (.rd 0 (.rd 1 (.rd 2 (.rd 3 (.rd 4 (.rd 5 (.rd 6 (.rd 7 (.rd 8 (.rd 9 (.ef 10 .done))))))))))) ?_
    refine Zqk [(0, .gen []), (1, .gen []), (2, .gen [.int .u16 A]), (3, .gen []), (4, .as_ (.int .i64 (k1 : Nat)) (.gen [])), (5, .as_ (.int .u64 (k1 : Nat)) (.gen [])), (6, .shift (iShl .u16 1 (k1 : Nat))), (7, .div (A / (iShl .u16 1 (k1 : Nat)))), (8, .div ((A / (iShl .u16 1 (k1 : Nat))) % 2)), (9, .as_ (vp b4 (0 + ((k1 + 1) * 1))) .at_)] [(2, [.cell ⟨b1, 1, none⟩ (.int .u16 A)]), (4, [.prop (Value.int .i64 (IntKind.i64.wrap (((k1 : Nat) + 1) - 1)) = Value.int .i64 (k1 : Nat))]), (5, [.prop (Value.int .u64 (IntKind.u64.wrap (k1 : Nat)) = Value.int .u64 (k1 : Nat))]), (6, [.prop ((0 : Int) ≤ (k1 : Nat) ∧ IntKind.u16.wrap (1 * 2 ^ (min (Int.toNat (k1 : Nat)) (IntKind.bits .u16))) = iShl .u16 1 (k1 : Nat))]), (7, [.prop (IntKind.u16 = IntKind.u16 ∧ ((iShl .u16 1 (k1 : Nat)) : Int) ≠ 0 ∧ IntKind.u16.wrap (Int.tdiv A (iShl .u16 1 (k1 : Nat))) = A / (iShl .u16 1 (k1 : Nat)))]), (8, [.prop (IntKind.u16 = IntKind.u16 ∧ (2 : Int) ≠ 0 ∧ Int.tmod (A / (iShl .u16 1 (k1 : Nat))) 2 = (A / (iShl .u16 1 (k1 : Nat))) % 2)]), (9, [.prop (0 ≤ (((k1 : Nat) + 1) : Int) ∧ (((k1 : Nat) + 1) : Int) < (12 : Int)), .prop (Value.pointer (some (Addr.add ⟨b4, 0, none⟩ (Int.toNat ((k1 : Nat) + 1) * 1))) = Value.pointer (some ⟨b4, 0 + ((k1 + 1) * 1), none⟩))])] [(25, vp b4 (0 + ((k1 + 1) * 1))), (24, .int .u16 ((A / (iShl .u16 1 (k1 : Nat))) % 2)), (1, .int .i64 (m : Nat)), (2, vp b1 0), (4, .slice none 0 0), (5, vp b4 0), (6, .int .i64 ((k1 : Nat) + 1))] (ak (okc (hs10.cell 1 rfl (by kernel_rfl)) ok0) (ak (okp (i64eq (by omega) (by omega) (by omega)) ok0) (ak (okp (u64ok (by omega) (by omega)) ok0) (ak (okp ⟨(by first | omega | exact uwrap_nn rfl _), rfl⟩ ok0) (ak (okp ⟨rfl, by omega, by rw [Int.tdiv_eq_ediv_of_nonneg (by omega)]; exact u16w (by omega) (by omega)⟩ ok0) (ak (okp ⟨rfl, by decide, Int.tmod_eq_emod_of_nonneg (by first | omega | exact Int.natCast_nonneg _)⟩ ok0) (ak (okp (by omega) (okp (ptrAdd _ _ _) ok0)) ak0))))))) ?_
    refine GoR.store rfl rfl (by kernel_rfl) (b := b4) (off := 0 + ((k1 + 1) * 1)) (v := .int .u16 ((A / (iShl .u16 1 (k1 : Nat))) % 2)) (by kernel_rfl) (by kernel_rfl) (ti := Tryz.t22) (by kernel_rfl) hs10 0 rfl (by kernel_rfl) (by kernel_rfl) (by rw [Nat.zero_add]; exact arr_room (f := w16V) (size := 1) (l := v1) (k := (k1 + 1)) (w16VF).size (by first | omega | (simp only [List.length_set]; omega) | (simp only [List.length_set, List.length_append, List.length_cons, List.length_nil]; omega))) (cs' := arrCells w16V (v1.set (k1 + 1) ((A / (iShl .u16 1 (k1 : Nat))) % 2))) (L' := (Cel b4 (arrCells w16V (v1.set (k1 + 1) ((A / (iShl .u16 1 (k1 : Nat))) % 2))) 112) :: (Cel b1 #[.int .u8 kd, .int .u16 A, .int .i64 N] 29) :: L) (by rw [Nat.zero_add]; exact splice_arr (f := w16V) (size := 1) (l := v1) (k := (k1 + 1)) (w16VF).size (by first | omega | (simp only [List.length_set]; omega) | (simp only [List.length_set, List.length_append, List.length_cons, List.length_nil]; omega)) ((A / (iShl .u16 1 (k1 : Nat))) % 2)) rfl ?_
    intro w12 hs13
    refine ⟨Zqo, ?_⟩
    refine GoR.done (GoQ.blkN (GoQ.thn ?_))
    refine Zqt (.rd 0 (.rd 1 (.rd 2 .done))) ?_
    refine Zqk [(0, .gen []), (1, .as_ (.int .i64 ((k1 : Nat) + 2)) (.gen [])), (2, .gen [])] [(1, [.prop (Value.int .i64 (IntKind.i64.wrap (((k1 : Nat) + 1) + 1)) = Value.int .i64 ((k1 : Nat) + 2))])] [(6, .int .i64 ((k1 : Nat) + 2)), (1, .int .i64 (m : Nat)), (2, vp b1 0), (4, .slice none 0 0), (5, vp b4 0)] (ak (okp (i64eq (by omega) (by omega) (by omega)) ok0) ak0) ?_
    refine GoR.done ?_
    exact GoQ.back (k1 + 1, v1.set (k1 + 1) ((A / (iShl .u16 1 (k1 : Nat))) % 2)) [1, 2, 4, 5, 6] (by kernel_rfl) (by show m - (k1 + 1) < m - k1; omega) ⟨⟨by omega, by simp only [List.length_set]; omega, fun q hq => by
            rcases Nat.lt_or_ge q k1 with h1 | h1
            · rw [List.getD_eq_getElem?_getD, List.getElem?_set_ne (by omega), ← List.getD_eq_getElem?_getD]; exact hpa.2.2 q h1
            · obtain rfl : q = k1 := by omega
              rw [List.getD_eq_getElem?_getD, List.getElem?_set_self (by omega)]; show _ % 2 = bitA A q; rw [hsh]; rfl⟩, hs13⟩
  · have h11' : ¬ (((k1 : Nat) + 1 : Int) ≤ (m : Nat)) := of_decide_eq_false h11
    refine GoC.exit (GoQ.skipC (GoQ.skipL (GoQ.hit (GoQ.thn (GoC.seq ?_)))))
    refine Zqt (.rd 0 .done) ?_
    refine Zqk [(0, .gen [])] [] [(7, .slice none 0 0), (1, .int .i64 (m : Nat)), (4, .slice none 0 0), (5, vp b4 0)] ak0 ?_
    refine GoR.done (GoQ.thn (GoC.seq (GoC.seq ?_)))
    refine Zqt (.rd 0 .done) ?_
    refine Zqk [(0, .gen [])] [] [(8, .int .i64 0), (7, .slice none 0 0), (1, .int .i64 (m : Nat)), (4, .slice none 0 0), (5, vp b4 0)] ak0 ?_
    refine GoR.done (GoQ.thn (GoC.block ?_))
    have hvm : ∀ q, q < m → v1.getD (q + 1) 0 = bitA A q := fun q hq => hpa.2.2 q (by omega)
    have hs14 : St w0 ((Sl none 0 50 107 SV.cells ([] : List SV)) :: (Cel b4 (arrCells w16V v1) 112) :: (Cel b1 #[.int .u8 kd, .int .u16 A, .int .i64 N] 29) :: L) w8 := St.slNil hs10 50 107 SV.cells
    refine GoC.loop (T := Nat × (List SV) × (Option Addr) × Nat) (fun gg => [(1, .int .i64 (m : Nat)), (4, .slice none 0 0), (5, vp b4 0), (7, .slice gg.2.2.1 gg.2.1.length gg.2.2.2), (8, .int .i64 (gg.1 : Nat))]) (fun gg w => (gg.2.1 = cutsR A m gg.1 ∧ gg.2.1.length ≤ gg.1 ∧ gg.1 ≤ m * m) ∧ St w0 ((Sl gg.2.2.1 gg.2.2.2 50 107 SV.cells gg.2.1) :: (Cel b4 (arrCells w16V v1) 112) :: (Cel b1 #[.int .u8 kd, .int .u16 A, .int .i64 N] 29) :: L) w) (fun gg => m * m - gg.1) (0, ([] : List SV), none, 0) [1, 4, 5, 7, 8] (by kernel_rfl) ⟨⟨rfl, Nat.zero_le _, Nat.zero_le _⟩, hs14⟩ ?_
    rintro ⟨p2, q2, adq2, cq2⟩ w15 ⟨hpb0, hs16⟩
    have hpb : q2 = cutsR A m p2 ∧ q2.length ≤ p2 ∧ p2 ≤ m * m := hpb0
    have hs17 : St w0 ((Sl adq2 cq2 50 107 SV.cells q2) :: (Cel b4 (arrCells w16V v1) 112) :: (Cel b1 #[.int .u8 kd, .int .u16 A, .int .i64 N] 29) :: L) w15 := hs16
    refine GoC.slots (S' := [(1, .int .i64 (m : Nat)), (4, .slice none 0 0), (5, vp b4 0), (7, .slice adq2 q2.length cq2), (8, .int .i64 (p2 : Nat))]) rfl ?_
    refine GoC.seq (GoC.seq ?_)
    refine Zqt (.rd 0 (.rd 1 (.rd 2 (.rd 3 (.rd 4 .done))))) ?_
    refine Zqk [(0, .gen []), (1, .gen []), (2, .gen []), (3, .as_ (.int .i64 ((m : Nat) * (m : Nat))) (.gen [])), (4, .gen [])] [(3, [.prop (Value.int .i64 (IntKind.i64.wrap ((m : Nat) * (m : Nat))) = Value.int .i64 ((m : Nat) * (m : Nat)))])] [(30, .bool (decide (((p2 : Nat) : Int) < ((m : Nat) * (m : Nat))))), (1, .int .i64 (m : Nat)), (4, .slice none 0 0), (5, vp b4 0), (7, .slice adq2 q2.length cq2), (8, .int .i64 (p2 : Nat))] (ak (okp (i64ok (by omega) (by omega)) ok0) ak0) ?_
    refine GoR.done (GoQ.thn ?_)
    refine Zqc (t := decide (((p2 : Nat) : Int) < ((m : Nat) * (m : Nat)))) (fun h18 => ?_) (fun h18 => ?_)
    · have h18' : ((p2 : Nat) : Int) < ((m : Nat) * (m : Nat)) := of_decide_eq_true h18
      have hpp : p2 + 1 ≤ m * m := by
        have h9 : ((p2 : Nat) : Int) < ((m * m : Nat) : Int) := by rw [Int.natCast_mul]; omega
        omega
      have hpd : p2 / m < m := Nat.div_lt_of_lt_mul hpp
      have hpq : ((p2 : Nat) : Int) / (m : Int) < (m : Int) := by show ((p2 / m : Nat) : Int) < (m : Int); omega
      refine GoC.skip (GoQ.thn (GoC.seq (GoC.block (GoC.seq ?_))))
      refine Zqt (.rd 0 (.rd 1 (.rd 2 (.rd 3 (.rd 4 .done))))) ?_
      obtain ⟨qt19, hqt20⟩ : ∃ n : Nat, ((p2 : Nat) : Int) / (m : Nat) = (n : Int) := divNat (by omega) (by omega)
      have hqt20b : (qt19 : Int) < (m : Int) := by rw [← hqt20]; exact hpq
      refine Zqk [(0, .gen []), (1, .gen []), (2, .div (qt19 : Nat)), (3, .as_ (.int .i64 ((qt19 : Nat) + 1)) (.gen [])), (4, .gen [])] [(2, [.prop (IntKind.i64 = IntKind.i64 ∧ ((m : Nat) : Int) ≠ 0 ∧ IntKind.i64.wrap (Int.tdiv (p2 : Nat) (m : Nat)) = (qt19 : Nat))]), (3, [.prop (Value.int .i64 (IntKind.i64.wrap ((qt19 : Nat) + 1)) = Value.int .i64 ((qt19 : Nat) + 1))])] [(9, .int .i64 ((qt19 : Nat) + 1)), (1, .int .i64 (m : Nat)), (4, .slice none 0 0), (5, vp b4 0), (7, .slice adq2 q2.length cq2), (8, .int .i64 (p2 : Nat))] (ak (okp ⟨rfl, by omega, by rw [Int.tdiv_eq_ediv_of_nonneg (by omega), hqt20]; exact i64w (by omega) (by omega)⟩ ok0) (ak (okp (i64ok (by omega) (by omega)) ok0) ak0)) ?_
      refine GoR.done (GoQ.thn (GoC.seq ?_))
      refine Zqt (.rd 0 (.rd 1 (.rd 2 (.rd 3 (.rd 4 .done))))) ?_
      obtain ⟨at21, hat22⟩ : ∃ n : Nat, ((p2 : Nat) : Int) % (m : Nat) = (n : Int) ∧ (n : Int) < (m : Nat) := remNat (by omega) (by omega)
      refine Zqk [(0, .gen []), (1, .gen []), (2, .div (at21 : Nat)), (3, .as_ (.int .i64 ((at21 : Nat) + 1)) (.gen [])), (4, .gen [])] [(2, [.prop (IntKind.i64 = IntKind.i64 ∧ ((m : Nat) : Int) ≠ 0 ∧ Int.tmod (p2 : Nat) (m : Nat) = (at21 : Nat))]), (3, [.prop (Value.int .i64 (IntKind.i64.wrap ((at21 : Nat) + 1)) = Value.int .i64 ((at21 : Nat) + 1))])] [(10, .int .i64 ((at21 : Nat) + 1)), (9, .int .i64 ((qt19 : Nat) + 1)), (1, .int .i64 (m : Nat)), (4, .slice none 0 0), (5, vp b4 0), (7, .slice adq2 q2.length cq2), (8, .int .i64 (p2 : Nat))] (ak (okp ⟨rfl, by omega, by rw [Int.tmod_eq_emod_of_nonneg (by omega)]; exact hat22.1⟩ ok0) (ak (okp (i64ok (by omega) (by omega)) ok0) ak0)) ?_
      refine GoR.done (GoQ.thn (GoC.seq ?_))
      refine GoC.join (T := Unit) (E := fun _ => [(53, .bool ((decide (((qt19 : Nat) + 1 : Int) < ((at21 : Nat) + 1))) && (((IntKind.u16.wrap ((v1.getD (qt19 + 1) (0 : Int)) + (v1.getD (at21 + 1) (0 : Int)))) : Int) == 1))), (10, .int .i64 ((at21 : Nat) + 1)), (9, .int .i64 ((qt19 : Nat) + 1)), (1, .int .i64 (m : Nat)), (4, .slice none 0 0), (5, vp b4 0), (7, .slice adq2 q2.length cq2), (8, .int .i64 (p2 : Nat))]) (F := fun _ w => St w0 ((Sl adq2 cq2 50 107 SV.cells q2) :: (Cel b4 (arrCells w16V v1) 112) :: (Cel b1 #[.int .u8 kd, .int .u16 A, .int .i64 N] 29) :: L) w) ?_ ?_
      · refine GoC.regD [0, 0, 3, 7, 15, 31, 63, 15, 143, 399, 1023, 2047, 4095] (.rd 0 (.rd 1 (.rd 2 (.rd 3 (.rd 4 (.rd 5 (.rd 6 (.rd 7 (.rd 8 (.rd 9 (.rd 10 (.rd 11 (.rd 12 .done))))))))))))) (by kernel_rfl) (by kernel_rfl) noPan_body (by kernel_rfl) hs17 ?_
        intro w23 hs24 hw25
        refine Zqk [(0, .gen []), (1, .gen []), (2, .gen []), (3, .gen [])] [] [(44, .bool (decide (((qt19 : Nat) + 1 : Int) < ((at21 : Nat) + 1)))), (10, .int .i64 ((at21 : Nat) + 1)), (9, .int .i64 ((qt19 : Nat) + 1)), (1, .int .i64 (m : Nat)), (4, .slice none 0 0), (5, vp b4 0), (7, .slice adq2 q2.length cq2), (8, .int .i64 (p2 : Nat))] ak0 ?_
        rcases Bool.eq_false_or_eq_true (decide (((qt19 : Nat) + 1 : Int) < ((at21 : Nat) + 1))) with h26 | h26
        · refine Zqs 44 true h26 ?_
          have h26' : ((qt19 : Nat) + 1 : Int) < ((at21 : Nat) + 1) := of_decide_eq_true h26
          refine Zqk [(4, .gen []), (5, .as_ (vp b4 (0 + ((qt19 + 1) * 1))) .at_), (6, .gen [.int .u16 (v1.getD (qt19 + 1) (0 : Int))]), (7, .gen []), (8, .as_ (vp b4 (0 + ((at21 + 1) * 1))) .at_), (9, .gen [.int .u16 (v1.getD (at21 + 1) (0 : Int))]), (10, .gen []), (11, .gen []), (12, .gen [])] [(5, [.prop (0 ≤ (((qt19 : Nat) + 1) : Int) ∧ (((qt19 : Nat) + 1) : Int) < (12 : Int)), .prop (Value.pointer (some (Addr.add ⟨b4, 0, none⟩ (Int.toNat ((qt19 : Nat) + 1) * 1))) = Value.pointer (some ⟨b4, 0 + ((qt19 + 1) * 1), none⟩))]), (6, [.cell ⟨b4, 0 + ((qt19 + 1) * 1), none⟩ (.int .u16 (v1.getD (qt19 + 1) (0 : Int)))]), (8, [.prop (0 ≤ (((at21 : Nat) + 1) : Int) ∧ (((at21 : Nat) + 1) : Int) < (12 : Int)), .prop (Value.pointer (some (Addr.add ⟨b4, 0, none⟩ (Int.toNat ((at21 : Nat) + 1) * 1))) = Value.pointer (some ⟨b4, 0 + ((at21 + 1) * 1), none⟩))]), (9, [.cell ⟨b4, 0 + ((at21 + 1) * 1), none⟩ (.int .u16 (v1.getD (at21 + 1) (0 : Int)))])] [(53, .bool (((IntKind.u16.wrap ((v1.getD (qt19 + 1) (0 : Int)) + (v1.getD (at21 + 1) (0 : Int)))) : Int) == 1)), (10, .int .i64 ((at21 : Nat) + 1)), (9, .int .i64 ((qt19 : Nat) + 1)), (1, .int .i64 (m : Nat)), (4, .slice none 0 0), (5, vp b4 0), (7, .slice adq2 q2.length cq2), (8, .int .i64 (p2 : Nat))] (ak (okp (by omega) (okp (ptrAdd _ _ _) ok0)) (ak (okc (RowsAt.at0 (arr_rows hs24 1 rfl (w16VF).size (0 : Int)) (k := (qt19 + 1)) (by first | omega | (simp only [List.length_set]; omega) | (simp only [List.length_set, List.length_append, List.length_cons, List.length_nil]; omega)) (j := 0) (by decide) (by kernel_rfl)) ok0) (ak (okp (by omega) (okp (ptrAdd _ _ _) ok0)) (ak (okc (RowsAt.at0 (arr_rows hs24 1 rfl (w16VF).size (0 : Int)) (k := (at21 + 1)) (by first | omega | (simp only [List.length_set]; omega) | (simp only [List.length_set, List.length_append, List.length_cons, List.length_nil]; omega)) (j := 0) (by decide) (by kernel_rfl)) ok0) ak0)))) ?_
          refine GoR.done ?_
          refine GoQ.pick [53, 10, 9, 1, 4, 5, 7, 8] (S' := [(53, .bool (((IntKind.u16.wrap ((v1.getD (qt19 + 1) (0 : Int)) + (v1.getD (at21 + 1) (0 : Int)))) : Int) == 1)), (10, .int .i64 ((at21 : Nat) + 1)), (9, .int .i64 ((qt19 : Nat) + 1)), (1, .int .i64 (m : Nat)), (4, .slice none 0 0), (5, vp b4 0), (7, .slice adq2 q2.length cq2), (8, .int .i64 (p2 : Nat))]) (by kernel_rfl) ?_
          exact GoQ.meet1 () (by first | rfl | (simp only [h26, Bool.not_true, Bool.not_false, Bool.true_or, Bool.false_or, Bool.true_and, Bool.false_and, Bool.or_true, Bool.or_false, Bool.and_true, Bool.and_false]; done) | (simp [h26]; done)) hs24
        · refine Zqs 44 false h26 ?_
          have h26' : ¬ (((qt19 : Nat) + 1 : Int) < ((at21 : Nat) + 1)) := of_decide_eq_false h26
          refine Zqk [(4, .gen []), (5, .gen []), (6, .gen []), (7, .gen []), (8, .gen []), (9, .gen []), (10, .gen []), (11, .gen []), (12, .gen [])] [] [(53, .bool false), (10, .int .i64 ((at21 : Nat) + 1)), (9, .int .i64 ((qt19 : Nat) + 1)), (1, .int .i64 (m : Nat)), (4, .slice none 0 0), (5, vp b4 0), (7, .slice adq2 q2.length cq2), (8, .int .i64 (p2 : Nat))] ak0 ?_
          refine GoR.done ?_
          refine GoQ.pick [53, 10, 9, 1, 4, 5, 7, 8] (S' := [(53, .bool false), (10, .int .i64 ((at21 : Nat) + 1)), (9, .int .i64 ((qt19 : Nat) + 1)), (1, .int .i64 (m : Nat)), (4, .slice none 0 0), (5, vp b4 0), (7, .slice adq2 q2.length cq2), (8, .int .i64 (p2 : Nat))]) (by kernel_rfl) ?_
          exact GoQ.meet1 () (by first | rfl | (simp only [h26, Bool.not_true, Bool.not_false, Bool.true_or, Bool.false_or, Bool.true_and, Bool.false_and, Bool.or_true, Bool.or_false, Bool.and_true, Bool.and_false]; done) | (simp [h26]; done)) hs24
      intro _ w27 hs28
      refine GoQ.thn ?_
      refine Zqc (t := (decide (((qt19 : Nat) + 1 : Int) < ((at21 : Nat) + 1))) && (((IntKind.u16.wrap ((v1.getD (qt19 + 1) (0 : Int)) + (v1.getD (at21 + 1) (0 : Int)))) : Int) == 1)) (fun h29 => ?_) (fun h29 => ?_)
      · have h29a : (decide (((qt19 : Nat) + 1 : Int) < ((at21 : Nat) + 1))) = true := (Bool.and_eq_true_iff.1 h29).1
        have h29a' : ((qt19 : Nat) + 1 : Int) < ((at21 : Nat) + 1) := of_decide_eq_true h29a
        have h29b : (((IntKind.u16.wrap ((v1.getD (qt19 + 1) (0 : Int)) + (v1.getD (at21 + 1) (0 : Int)))) : Int) == 1) = true := (Bool.and_eq_true_iff.1 h29).2
        have h29b' : (IntKind.u16.wrap ((v1.getD (qt19 + 1) (0 : Int)) + (v1.getD (at21 + 1) (0 : Int))) : Int) = 1 := ieqT h29b
        refine Zqt (.rd 0 (.rd 1 (.rd 2 (.rd 3 (.ef 4 (.ef 5 (.rd 6 .done))))))) ?_
        refine Zqk [(0, .gen []), (1, .gen []), (2, .gen []), (3, .gen [])] [] [(57, .agg (SV.cells (⟨8, (qt19 : Nat) + 1, (at21 : Nat) + 1, 0, 0⟩ : SV))), (54, .slice adq2 q2.length cq2), (1, .int .i64 (m : Nat)), (4, .slice none 0 0), (5, vp b4 0), (7, .slice adq2 q2.length cq2), (8, .int .i64 (p2 : Nat))] ak0 ?_
        refine GoR.sliceLit rfl (by kernel_rfl) (t := 26) (e := 50) (n := 1) (ps := [(0, .agg (SV.cells (⟨8, (qt19 : Nat) + 1, (at21 : Nat) + 1, 0, 0⟩ : SV)))]) (by kernel_rfl) (by kernel_rfl) (ti := Tryz.t50) (z := svZ) (by kernel_rfl) (by kernel_rfl) (by decide) (by decide) (cs := SV.cells (⟨8, (qt19 : Nat) + 1, (at21 : Nat) + 1, 0, 0⟩ : SV)) (by kernel_rfl) hs28 ?_
        intro b30 w31 hs32 hz33
        have hs34 : St w0 ((Sl (some ⟨b30, 0, none⟩) 1 50 107 SV.cells ([((⟨8, (qt19 : Nat) + 1, (at21 : Nat) + 1, 0, 0⟩ : SV) : SV)])) :: (Sl adq2 cq2 50 107 SV.cells q2) :: (Cel b4 (arrCells w16V v1) 112) :: (Cel b1 #[.int .u8 kd, .int .u16 A, .int .i64 N] 29) :: L) w31 := St.slOf (l := [((⟨8, (qt19 : Nat) + 1, (at21 : Nat) + 1, 0, 0⟩ : SV) : SV)]) (f := SV.cells) hs32 hz33 (svF).size (by simp only [List.length_cons, List.length_nil, maxLen]; omega) (by kernel_rfl)
        refine ⟨Zqo, ?_⟩
        have hs37 : St w0 ((Sl adq2 cq2 50 107 SV.cells q2) :: (Sl (some ⟨b30, 0, none⟩) 1 50 107 SV.cells ([((⟨8, (qt19 : Nat) + 1, (at21 : Nat) + 1, 0, 0⟩ : SV) : SV)])) :: (Cel b4 (arrCells w16V v1) 112) :: (Cel b1 #[.int .u8 kd, .int .u16 A, .int .i64 N] 29) :: L) w31 := (hs34.pull 1 rfl)
        refine GoR.append rfl (by kernel_rfl) svsOK svF (ad := adq2) (c := cq2) (xs := q2) (ys := [((⟨8, (qt19 : Nat) + 1, (at21 : Nat) + 1, 0, 0⟩ : SV) : SV)]) (adx := some ⟨b30, 0, none⟩) (cx := 1) dSV (by kernel_rfl) hs37 (hs37.rows 1 rfl (svF).size dSV) (fun h => nomatch h) (by simp only [List.length_append, List.length_cons, List.length_nil]; omega) (by simp only [List.length_append, List.length_cons, List.length_nil]; omega) ?_
        intro ad38 c39 w35 hs36
        refine ⟨Zqo, ?_⟩
        refine Zqk [(6, .gen [])] [] [(7, .slice ad38 ((q2 ++ ([((⟨8, (qt19 : Nat) + 1, (at21 : Nat) + 1, 0, 0⟩ : SV) : SV)])).length) c39), (1, .int .i64 (m : Nat)), (4, .slice none 0 0), (5, vp b4 0), (8, .int .i64 (p2 : Nat))] ak0 ?_
        refine GoR.done (GoQ.blkN (GoQ.thn ?_))
        refine Zqt (.rd 0 (.rd 1 (.rd 2 .done))) ?_
        refine Zqk [(0, .gen []), (1, .as_ (.int .i64 ((p2 : Nat) + 1)) (.gen [])), (2, .gen [])] [(1, [.prop (Value.int .i64 (IntKind.i64.wrap ((p2 : Nat) + 1)) = Value.int .i64 ((p2 : Nat) + 1))])] [(8, .int .i64 ((p2 : Nat) + 1)), (7, .slice ad38 ((q2 ++ ([((⟨8, (qt19 : Nat) + 1, (at21 : Nat) + 1, 0, 0⟩ : SV) : SV)])).length) c39), (1, .int .i64 (m : Nat)), (4, .slice none 0 0), (5, vp b4 0)] (ak (okp (i64ok (by omega) (by omega)) ok0) ak0) ?_
        refine GoR.done ?_
        have hs40 : St w0 ((Sl (some ⟨b30, 0, none⟩) 1 50 107 SV.cells ([((⟨8, (qt19 : Nat) + 1, (at21 : Nat) + 1, 0, 0⟩ : SV) : SV)])) :: (Sl ad38 c39 50 107 SV.cells (q2 ++ ([((⟨8, (qt19 : Nat) + 1, (at21 : Nat) + 1, 0, 0⟩ : SV) : SV)]))) :: (Cel b4 (arrCells w16V v1) 112) :: (Cel b1 #[.int .u8 kd, .int .u16 A, .int .i64 N] 29) :: L) w35 := ((((hs36.pull 3 rfl).pull 3 rfl).pull 2 rfl).pull 3 rfl)
        have hs41 : St w0 ((Sl ad38 c39 50 107 SV.cells (q2 ++ ([((⟨8, (qt19 : Nat) + 1, (at21 : Nat) + 1, 0, 0⟩ : SV) : SV)]))) :: (Cel b4 (arrCells w16V v1) 112) :: (Cel b1 #[.int .u8 kd, .int .u16 A, .int .i64 N] 29) :: L) w35 := hs40.drop 1
        exact GoQ.back (p2 + 1, q2 ++ ([((⟨8, (qt19 : Nat) + 1, (at21 : Nat) + 1, 0, 0⟩ : SV) : SV)]), ad38, c39) [1, 4, 5, 7, 8] (by kernel_rfl) (by show m * m - (p2 + 1) < m * m - p2; omega) ⟨⟨by rw [cutsR_succ, cut_at (div_name hqt20) (mod_name hat22.1) (by omega) (by omega) hvm, if_pos h29, hpb.1], by first | omega | (simp only [List.length_append, List.length_cons, List.length_nil]; omega), hpp⟩, hs41⟩
      · refine GoC.skip (GoQ.blkN (GoQ.thn ?_))
        refine Zqt (.rd 0 (.rd 1 (.rd 2 .done))) ?_
        refine Zqk [(0, .gen []), (1, .as_ (.int .i64 ((p2 : Nat) + 1)) (.gen [])), (2, .gen [])] [(1, [.prop (Value.int .i64 (IntKind.i64.wrap ((p2 : Nat) + 1)) = Value.int .i64 ((p2 : Nat) + 1))])] [(8, .int .i64 ((p2 : Nat) + 1)), (1, .int .i64 (m : Nat)), (4, .slice none 0 0), (5, vp b4 0), (7, .slice adq2 q2.length cq2)] (ak (okp (i64ok (by omega) (by omega)) ok0) ak0) ?_
        refine GoR.done ?_
        exact GoQ.back (p2 + 1, q2, adq2, cq2) [1, 4, 5, 7, 8] (by kernel_rfl) (by show m * m - (p2 + 1) < m * m - p2; omega) ⟨⟨by rw [cutsR_succ, cut_at (div_name hqt20) (mod_name hat22.1) (by omega) (by omega) hvm, if_neg (ne_true_of_eq_false h29), List.append_nil, hpb.1], by first | omega | (simp only [List.length_append, List.length_cons, List.length_nil]; omega), hpp⟩, hs28⟩
    · have h18' : ¬ (((p2 : Nat) : Int) < ((m : Nat) * (m : Nat))) := of_decide_eq_false h18
      refine GoC.exit (GoQ.skipC (GoQ.skipL (GoQ.hit (GoQ.thn (GoC.seq ?_)))))
      refine Zqt (.rd 0 (.rd 1 .done)) ?_
      refine Zqk [(0, .gen []), (1, .gen [])] [] [(4, .slice adq2 q2.length cq2)] ak0 ?_
      refine GoR.done (GoQ.thn (GoC.ret ?_))
      refine Zq1 (v := .slice adq2 q2.length cq2) ?_
      have hqe : q2 = cutsL A m := by rw [hpb.1, cutsL, show p2 = m * m by
        have h9 : ¬ (((p2 : Nat) : Int) < ((m * m : Nat) : Int)) := by rw [Int.natCast_mul]; omega
        omega]
      subst hqe
      have hs42 : St w0 ((Rd adq2 107 SV.cells dSV (cutsL A m)) :: (Cel b4 (arrCells w16V v1) 112) :: (Cel b1 #[.int .u8 kd, .int .u16 A, .int .i64 N] 29) :: L) w15 := St.rdSl svF dSV hs17
      have hs43 : St w0 ((Cel b4 (arrCells w16V v1) 112) :: (Cel b1 #[.int .u8 kd, .int .u16 A, .int .i64 N] 29) :: (Rd adq2 107 SV.cells dSV (cutsL A m)) :: L) w15 := (((hs42.pull 0 rfl).pull 2 rfl).pull 2 rfl)
      have hs44 : St w0 ((Rd adq2 107 SV.cells dSV (cutsL A m)) :: L) w15 := hs43.drop 2
      exact ⟨adq2, cq2, rfl, hs44⟩
end Go.Proofs.YtahmejhidelkbaaGreatDoor
