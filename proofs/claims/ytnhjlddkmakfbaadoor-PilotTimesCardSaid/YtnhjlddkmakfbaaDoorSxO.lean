/-
  Sx, part O: bytes of strings; parts of slices. Proved once, for any program. Conditions: none beside each theorem's own.
-/
import Derived.Test.YtnhjlddkmakfbaaDoorSxN
namespace Go.Sx
open Go.RowKit
set_option linter.unusedVariables false
set_option linter.unusedSimpArgs false

/-- a string's byte -/
def bat (s : ByteArray) (k : Nat) : Nat := (s.data.getD k 0).toNat
theorem bat_lt (s : ByteArray) (k : Nat) : bat s k < 256 := (s.data.getD k 0).toNat_lt
theorem batOk {s : ByteArray} {i : Int} {k : Nat} (hk : i = (k : Int)) (h : k < s.size) : 0 ≤ i ∧ s[i.toNat]? = some (s.data.getD k 0) := by
  subst hk
  refine ⟨by omega, ?_⟩
  have h' : k < s.data.size := h
  have h1 : s[(k : Int).toNat]? = s[k]? := rfl
  rw [h1, getElem?_pos s k h]
  congr 1
  simp only [Array.getD, h', dite_true]
  rfl

/-- bytes out of a block -/
def u8of (x : Int) : UInt8 := UInt8.ofNat x.toNat
theorem u8of_toNat {x : Int} (h0 : 0 ≤ x) (h1 : x < 256) : ((u8of x).toNat : Int) = x := by
  rw [u8of, UInt8.toNat_ofNat']; omega
theorem celBytes {b : Nat} {T : TypeId} {w : World} (l : List Int) (h : (Cel b (l.map fun x => Value.int .u8 x).toArray T).holds w) (hr : ∀ x ∈ l, 0 ≤ x ∧ x < 256) : BytesAt b 0 (l.map u8of) w := by
  intro j hj
  rw [List.length_map] at hj
  rw [Cel.cell h, Nat.zero_add, List.getElem?_toArray, List.getElem?_map, List.getElem?_eq_getElem hj, List.getElem_map]
  obtain ⟨h0, h1⟩ := hr _ (List.getElem_mem hj)
  rw [u8of_toNat h0 h1]
  rfl

def subAd (ad : Option Addr) (c lo size : Nat) : Option Addr := if c = lo then ad else ad.map (fun a => a.add (lo * size))
theorem subSl {ad : Option Addr} {c lo size m n k : Nat} (h : m = n) : Value.slice (if c = lo then ad else ad.map (fun a => a.add (lo * size))) m k = .slice (subAd ad c lo size) n k := by subst h; rfl
theorem add_zero (a : Addr) (size : Nat) : a.add (0 * size) = a := by rw [Nat.zero_mul]; unfold Addr.add; simp
theorem subSl0 {ad : Option Addr} {c size m n : Nat} (h : m - 0 = n) : Value.slice (if c = 0 then ad else ad.map (fun a => a.add (0 * size))) (m - 0) (c - 0) = .slice ad n c := by
  subst h
  have : (if c = 0 then ad else ad.map (fun a => a.add (0 * size))) = ad := by
    split
    · rfl
    · cases ad with
      | none => rfl
      | some a => simp only [Option.map_some, add_zero]
  rw [this]
  rfl
theorem subAd_none {ad : Option Addr} {c lo size : Nat} (h : ad = none → c = 0) (hn : subAd ad c lo size = none) : c - lo = 0 := by
  unfold subAd at hn
  split at hn
  · omega
  · cases ad with
    | none => have := h rfl; omega
    | some a => simp at hn

section
variable {P : Program} {R0 : Exit → Act → World → Prop} {N : Nat} {K : List KItem} {S : Env} {w w0 : World} {l : List Oper} {M : List Nat} {A : Asked} {rest : PT} {L : List Asn}
/-- a slice literal of nothing -/
theorem GoR.sliceLit0 {i : Nat} {o : Oper} (ho : l[i]? = some o) (hw : wantE l.toArray S o = some true) {t e : TypeId} (hl : litArgs S o = some (t, 0, [])) (hu : P.underlying t = some (.slice e)) {ti : TypeInfo} (hi : P.info? e = some ti) (hs : St w0 L w)
    (h : ∀ b w', St w0 (Cel b #[] e :: L) w' → w'.heap[b]? = some (.cells #[] e (0, 0)) → okAll w' (opens M A i) ∧ GoR P l M R0 K N A rest (S.setO o.dst (.slice (some ⟨b, 0, none⟩) 0 0)) w') : GoR P l M R0 K N A (.ef i rest) S w := by
  obtain ⟨k1, k2⟩ := h _ _ (hs.newCells #[] e) (by simp)
  refine GoR.run ho hw _ _ (fun a hfit => .inl ?_) k1 k2
  unfold litArgs at hl
  split at hl
  · rename_i t' n' parts hop
    split at hl
    · rename_i vs hvs
      simp only [Option.some.injEq, Prod.mk.injEq] at hl
      obtain ⟨rfl, rfl, hp⟩ := hl
      have h3 := hfit.ops hvs
      have h4 : (parts.map fun (i, x) => (i, a.eval x)).toList = [] := by
        rw [← hp, ← h3]
        simp only [Array.toList_map]
        generalize parts.toList = q
        induction q with
        | nil => rfl
        | cons y q ih => simp [ih]
      generalize a.eval = ρ at h4 ⊢
      have hns : ¬ (0 > 2 ^ 24) := by omega
      simp only [execOp, hop, Instr.buildSlice, Sem.run_bind, run_underlying hu, Result.andThen_ok, sizeOf, typeInfo, run_program, hi, Sem.run_pure, Nat.zero_mul, hns, if_false, if_true, h4, newRow, newObj]
      simp [Sem.run, Instr.fill]
      have hz : (Array.map (fun _ => (default : Value)) (Array.range 0)) = #[] := Array.ext' (by simp)
      rw [hz]
    · cases hl
  · cases hl
end

section
variable {w w0 : World} {L : List Asn} {α : Type} {ad : Option Addr} {c size : Nat} {e : TypeId} {f : α → Array Value} {l : List α}

theorem RowsAt.takeL {d : α} (h : RowsAt w ad l.length size (fun k => f (l.getD k d))) (n : Nat) (hn : n ≤ l.length) : RowsAt w ad (l.take n).length size (fun k => f ((l.take n).getD k d)) := by
  have h1 : (l.take n).length = n := by rw [List.length_take]; omega
  rw [h1]
  refine (h.lt hn).congr' fun k hk => ?_
  congr 1
  rw [List.getD_eq_getElem?_getD, List.getD_eq_getElem?_getD, List.getElem?_take_of_lt hk]

theorem RowsAt.dropL {d : α} {lo : Nat} (h : RowsAt w ad l.length size (fun k => f (l.getD k d))) (hc : l.length ≤ c) (hn : lo ≤ l.length) : RowsAt w (subAd ad c lo size) (l.drop lo).length size (fun k => f ((l.drop lo).getD k d)) := fun hm => by
  rw [List.length_drop] at hm
  obtain ⟨b, off, h1, h2⟩ := h (by omega)
  subst h1
  refine ⟨b, off + lo * size, ?_, fun k hk j hj => ?_⟩
  · unfold subAd
    rw [if_neg (by omega), Option.map_some, add_mk]
  · rw [List.length_drop] at hk
    rw [Nat.add_assoc off, ← Nat.add_mul, h2 (lo + k) (by omega) j hj]
    show (f (l.getD (lo + k) d))[j]? = (f ((l.drop lo).getD k d))[j]?
    rw [List.getD_eq_getElem?_getD, List.getD_eq_getElem?_getD, List.getElem?_drop]

theorem RowsAt.dropTakeL {d : α} {lo m : Nat} (h : RowsAt w ad l.length size (fun k => f (l.getD k d))) (hc : l.length ≤ c) (hn : lo ≤ l.length ∧ m ≤ l.length - lo) : RowsAt w (subAd ad c lo size) ((l.drop lo).take m).length size (fun k => f (((l.drop lo).take m).getD k d)) :=
  RowsAt.takeL (h.dropL hc hn.1) m (by rw [List.length_drop]; exact hn.2)

theorem Sl.isSome (h : (Sl ad c e size f l).holds w) (hn : 0 < l.length) : ∃ b, ad = some ⟨b, 0, none⟩ := by
  have h0 : w.ownsRow 0 e size (.slice ad l.length c) l.length (l.flatMap fun x => (f x).toList) := h
  rcases h0.2 with ⟨h1, h2⟩ | ⟨g, cap, cur, hv, _⟩
  · omega
  · simp only [Value.slice.injEq] at hv
    exact ⟨g, hv.1⟩

theorem Sl.cap (h : (Sl ad c e size f l).holds w) : l.length ≤ c := by
  have h0 : w.ownsRow 0 e size (.slice ad l.length c) l.length (l.flatMap fun x => (f x).toList) := h
  rcases h0.2 with ⟨h1, h2⟩ | ⟨g, cap, cur, hv, _, _, hnc, _⟩
  · omega
  · simp only [Value.slice.injEq] at hv
    obtain ⟨_, _, rfl⟩ := hv
    exact hnc

theorem getD_mem {l : List α} {d : α} {k : Nat} (hk : k < l.length) : l.getD k d ∈ l := by
  rw [List.getD_eq_getElem?_getD, List.getElem?_eq_getElem hk]
  exact List.getElem_mem hk

theorem take_succ_getD {l : List α} {d : α} {k : Nat} (hk : k < l.length) : l.take (k + 1) = l.take k ++ [l.getD k d] := by
  rw [List.take_succ_eq_append_getElem hk, List.getD_eq_getElem?_getD, List.getElem?_eq_getElem hk]
  rfl
theorem drop_getD {l : List α} {d : α} {k : Nat} (hk : k < l.length) : l.drop k = l.getD k d :: l.drop (k + 1) := by
  rw [List.drop_eq_getElem_cons hk, List.getD_eq_getElem?_getD, List.getElem?_eq_getElem hk]
  rfl
end
end Go.Sx
