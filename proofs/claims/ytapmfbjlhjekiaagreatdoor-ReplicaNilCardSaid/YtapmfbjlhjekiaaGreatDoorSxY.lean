/-
  Sx, part Y: append of a string to a row of bytes of one's own. Proved once, for any program. Conditions: none beside each theorem's own.
-/
import Derived.Test.YtapmfbjlhjekiaaGreatDoorSxT
namespace Go.Sx
open Go.RowKit
set_option linter.unusedVariables false
set_option linter.unusedSimpArgs false
section
variable {P : Program} {w w0 : World} {L : List Asn}
def byteV (n : Int) : Array Value := #[.int .u8 n]
theorem byteV_size (n : Int) : (byteV n).size = 1 := rfl
def strB (s : ByteArray) : List Int := s.data.toList.map fun b => (b.toNat : Int)
theorem strB_length (s : ByteArray) : (strB s).length = s.size := by simp only [strB, List.length_map, Array.length_toList]; rfl
def strV (s : ByteArray) : List Value := s.data.toList.map fun b => Value.int .u8 (b.toNat : Int)
theorem strV_flat (s : ByteArray) : ((strB s).flatMap fun x => (byteV x).toList) = strV s := by
  unfold strB strV
  induction s.data.toList with
  | nil => rfl
  | cons a l ih => simp only [List.map_cons, List.flatMap_cons, ih]; rfl
theorem strV_length (s : ByteArray) : (strV s).length = s.size := by simp only [strV, List.length_map, Array.length_toList]; rfl
theorem strV_arr (s : ByteArray) : Array.map (fun b : UInt8 => Value.int IntKind.u8 (b.toNat : Int)) s.data = (strV s).toArray := by
  apply Array.ext'
  simp [strV]
theorem extract_all (s : ByteArray) : (Array.map (fun b : UInt8 => Value.int IntKind.u8 (b.toNat : Int)) s.data).extract 0 s.size = (strV s).toArray := by
  have hs : s.size = (Array.map (fun b : UInt8 => Value.int IntKind.u8 (b.toNat : Int)) s.data).size := by rw [Array.size_map]; rfl
  rw [hs, Array.extract_size]
  apply Array.ext'
  simp [strV]
theorem run_append_room_str (t u ty e : TypeId) (i : TypeInfo) (ht : P.underlying t = some (.slice e)) (hu : P.underlying u = some .string) (hi : P.info? e = some i) (hsz : i.size = 1)
    (g sLen sCap : Nat) (cur : Array Value) (hg : w.heap[g]? = some (.cells cur e (0, 0))) (s : ByteArray) (hroom : sLen + s.size ≤ sCap) (hfit : sLen + s.size ≤ cur.size) :
    (Builtin.append_ #[t, u] ty #[.slice (some ⟨g, 0, none⟩) sLen sCap, .string s]).run P w =
      .ok (.slice (some ⟨g, 0, none⟩) (sLen + s.size) sCap) (w.setRow g (cur.toList.take sLen ++ strV s ++ cur.toList.drop (sLen + s.size)).toArray) := by
  have hst := run_storeCells_at P g sLen e (strV s) 0 cur w hg (by rw [strV_length]; simpa using hfit) (fun u hu => by
    obtain ⟨b, -, rfl⟩ := List.mem_map.1 hu
    rfl)
  simp only [Nat.add_zero, strV_length] at hst
  simp [Builtin.append_, run_underlying ht, run_underlying hu, sizeOf, typeInfo, hi, hsz, Builtin.lenOf, hroom, Builtin.firstCells, Addr.add_lit, extract_all, hst]
theorem run_append_grow_str (t u ty e : TypeId) (i : TypeInfo) (z : Value) (ht : P.underlying t = some (.slice e)) (hu : P.underlying u = some .string) (hi : P.info? e = some i) (hz : i.zero = some z) (hsz : i.size = 1)
    (b : Addr) (sLen sCap : Nat) (olds : List Value) (hlo : olds.length = sLen) (holds : ∀ j v, olds[j]? = some v → w.cell? (b.add j) = some v)
    (s : ByteArray) (hg : sCap < sLen + s.size) (h63 : ((sLen + s.size : Nat) : Int) ≤ 9223372036854775807) (hfit : Builtin.nextslicecap (sLen + s.size) sCap * i.bytes ≤ 281474976710656) :
    (Builtin.append_ #[t, u] ty #[.slice (some b) sLen sCap, .string s]).run P w =
      .ok (.slice (some ⟨w.heap.size, 0, none⟩) (sLen + s.size) (grownCap w (sLen + s.size) sCap e))
        (w.drew.alloc (.cells (olds.toArray ++ (strV s).toArray ++ Builtin.zeroCells z.cells (grownCap w (sLen + s.size) sCap e - (sLen + s.size))) e)) := by
  have hn : ¬ (sLen + s.size ≤ sCap) := by omega
  have h63' : ¬ (9223372036854775807 < ((sLen : Int) + (s.size : Int))) := by omega
  have h48' : ¬ (281474976710656 < Builtin.nextslicecap (sLen + s.size) sCap * i.bytes) := by omega
  have hfo := run_firstCells_some (P := P) w.drew i.size sLen b sLen sCap olds (by rw [hsz, Nat.mul_one]; exact hlo) (by simpa using holds)
  rw [hsz] at hfo
  simp [Builtin.append_, run_underlying ht, run_underlying hu, sizeOf, typeInfo, zeroValue, hi, hz, hsz, Builtin.lenOf, hn, h63', h48', Question.forced, hfo, newRow, grownCap]
  have hfs : (Builtin.firstCells 1 s.size (.string s)).run P w.drew = .ok (strV s).toArray w.drew := by
    have he := extract_all s
    simp only [strV_arr] at he
    simp [Builtin.firstCells, strV_arr, he]
  rw [hfs]
  simp only [Result.andThen_ok]
  have harr : ∀ zz : Array Value, olds.toArray ++ ((strV s).toArray ++ zz) = (olds ++ strV s).toArray ++ zz := fun zz => by
    apply Array.ext'
    simp [List.append_assoc]
  simp only [harr]
  rfl
/-- append(b, s...), told on lists. -/
theorem run_append_str {t u ty e : TypeId} {ti : TypeInfo} {z : Value} (ht : P.underlying t = some (.slice e)) (hu : P.underlying u = some .string) (hi : P.info? e = some ti) (hz : ti.zero = some z) (hsize : ti.size = 1) (hby : ti.bytes = 1) (hzs : z.cells.size = 1)
    {ad : Option Addr} {c : Nat} {l : List Int} (hs : St w0 (Sl ad c e 1 byteV l :: L) w) (s : ByteArray) (h63 : l.length + s.size ≤ 1000000000000) :
    ∃ ad' c' w', (Builtin.append_ #[t, u] ty #[.slice ad l.length c, .string s]).run P w = .ok (.slice ad' (l ++ strB s).length c') w' ∧ St w0 (Sl ad' c' e 1 byteV (l ++ strB s) :: L) w' := by
  have hf := byteV_size
  have h0 : w.ownsRow 0 e 1 (.slice ad l.length c) l.length (l.flatMap fun x => (byteV x).toList) := hs.holds _ (List.mem_cons_self ..)
  have hl : (l ++ strB s).length = l.length + s.size := by rw [List.length_append, strB_length]
  have hfl : ((l ++ strB s).flatMap fun x => (byteV x).toList) = (l.flatMap fun x => (byteV x).toList) ++ strV s := by rw [List.flatMap_append, strV_flat]
  have hll : (l.flatMap fun x => (byteV x).toList).length = l.length := by rw [flat_length hf, Nat.mul_one]
  -- the new row
  have fresh : ∀ cap, St w0 (Sl (some ⟨w.heap.size, 0, none⟩) (grownCap w (l.length + s.size) cap e) e 1 byteV (l ++ strB s) :: L)
      (w.drew.alloc (.cells ((l.flatMap fun x => (byteV x).toList).toArray ++ (strV s).toArray ++ Builtin.zeroCells z.cells (grownCap w (l.length + s.size) cap e - (l.length + s.size))) e)) := by
    intro cap
    have hge := grownCap_ge w (l.length + s.size) cap e
    have hcm : grownCap w (l.length + s.size) cap e ≤ maxLen := grownCap_le_maxLen w (l.length + s.size) cap e (by simp only [maxLen]; omega)
    refine St.step hs rfl rfl rfl (by simp) (fun k hk _ => heap_alloc_old w.drew _ hk) ?_ (fun k hk => ⟨.inr ?_, ?_⟩)
    · show World.ownsRow _ 0 e 1 (.slice _ (l ++ strB s).length _) (l ++ strB s).length ((l ++ strB s).flatMap fun x => (byteV x).toList)
      rw [hl, hfl]
      refine ⟨by rw [List.length_append, hll, strV_length, Nat.mul_one], .inr ⟨w.heap.size, _, _, rfl, Nat.zero_le _, heap_alloc_new w.drew _, hge, hcm, ?_, ?_⟩⟩
      · simp only [Array.size_append, List.size_toArray, size_zeroCells, hzs, hll, strV_length]
        omega
      · have h9 : (l.length + s.size) * 1 = ((l.flatMap fun x => (byteV x).toList) ++ strV s).length := by rw [List.length_append, hll, strV_length, Nat.mul_one]
        simp only [Array.toList_append, List.append_assoc]
        rw [← List.append_assoc, h9]
        exact List.take_left
    · have h1 : (some w.heap.size : Option Nat) = some k := hk
      have h2 := Option.some.inj h1
      omega
    · have h1 : (some w.heap.size : Option Nat) = some k := hk
      have h2 := Option.some.inj h1
      subst h2
      simp
  rcases h0.2 with ⟨h3, h4⟩ | ⟨g, cap, cur, h3, hbg, hg, hnc, hcm, hcs, htake⟩
  · simp only [Value.slice.injEq] at h3
    obtain ⟨rfl, _, rfl⟩ := h3
    have hle : l = [] := List.eq_nil_of_length_eq_zero h4
    subst hle
    by_cases hm : s.size = 0
    · have hye : strB s = [] := List.eq_nil_of_length_eq_zero (by rw [strB_length]; exact hm)
      refine ⟨none, 0, w, ?_, by rw [hye]; exact hs⟩
      rw [hye]
      simp [Builtin.append_, run_underlying ht, run_underlying hu, sizeOf, typeInfo, hi, Builtin.lenOf, Builtin.firstCells, hm]
    · have hr := run_append_nil_string (P := P) (w := w) t u ty e ti z ht hu hi hz s (by omega) (by omega) (by rw [hby]; simp only [List.length_nil] at h63; omega)
      have hfr := fresh 0
      rw [strV_arr] at hr
      simp only [List.length_nil, Nat.zero_add, List.nil_append, List.flatMap_nil, Array.empty_append] at hfr hr ⊢
      exact ⟨_, _, _, by rw [strB_length]; exact hr, hfr⟩
  · simp only [Value.slice.injEq] at h3
    obtain ⟨rfl, _, rfl⟩ := h3
    by_cases hroom : l.length + s.size ≤ c
    · have hr := run_append_room_str (P := P) (w := w) t u ty e ti ht hu hi hsize g l.length c cur hg s hroom (by omega)
      refine ⟨some ⟨g, 0, none⟩, c, _, by rw [hl]; exact hr, ?_⟩
      have htake' : cur.toList.take l.length = l.flatMap fun x => (byteV x).toList := by rw [← htake, Nat.mul_one]
      have hown' : (Sl (some ⟨g, 0, none⟩) c e 1 byteV (l ++ strB s)).holds (w.setRow g (cur.toList.take l.length ++ strV s ++ cur.toList.drop (l.length + s.size)).toArray) := by
        show World.ownsRow _ 0 e 1 (.slice _ (l ++ strB s).length c) (l ++ strB s).length ((l ++ strB s).flatMap fun x => (byteV x).toList)
        rw [hl, hfl]
        refine ⟨by rw [List.length_append, hll, strV_length, Nat.mul_one], .inr ⟨g, c, _, rfl, Nat.zero_le _, setRow_heap w g cur _ e _ hg, hroom, hcm, ?_, ?_⟩⟩
        · simp only [List.size_toArray, List.length_append, List.length_take, List.length_drop, Array.length_toList, strV_length]
          omega
        · rw [htake', Nat.mul_one]
          have h9 : l.length + s.size = ((l.flatMap fun x => (byteV x).toList) ++ strV s).length := by rw [List.length_append, hll, strV_length]
          rw [h9]
          exact List.take_left
      have hgr : w.grownBy (w.setRow g (cur.toList.take l.length ++ strV s ++ cur.toList.drop (l.length + s.size)).toArray) (some g) := ⟨rfl, rfl, rfl, by simp, fun k _ hk => setRow_other w g k _ (fun e => hk (by simp [e]))⟩
      refine St.grown hs hgr (fun b hb => hb) hown' (fun b hb => ⟨.inl hb, ?_⟩)
      have h1 : (some g : Option Nat) = some b := hb
      have h2 := Option.some.inj h1
      subst h2
      exact Nat.lt_of_lt_of_le (Array.getElem?_eq_some_iff.1 hg).1 hgr.size
    · have holds : ∀ j u, (l.flatMap fun x => (byteV x).toList)[j]? = some u → w.cell? ((⟨g, 0, none⟩ : Addr).add j) = some u := h0.cells (g := g) rfl
      have hr := run_append_grow_str (P := P) (w := w) t u ty e ti z ht hu hi hz hsize ⟨g, 0, none⟩ l.length c _ hll holds s (by omega) (by omega) (growslice_fits (by omega) (by rw [hby]; omega))
      exact ⟨_, _, _, by rw [hl]; exact hr, fresh c⟩
end
section
variable {P : Program} {R0 : Exit → Act → World → Prop} {N : Nat} {Kk : List KItem} {S : Env} {w w0 : World} {l : List Oper} {M : List Nat} {A : Asked} {rest : PT} {L : List Asn}
/-- append(b, s...) -/
theorem GoR.appendStr {i : Nat} {o : Oper} (ho : l[i]? = some o) (hw : wantE l.toArray S o = some true) {t u e : TypeId} (he : ElemOK P t e 1 1) (hu : P.underlying u = some .string) {f : Int → Array Value} (hfv : f = byteV) {ad : Option Addr} {c : Nat} {xs : List Int} {s : ByteArray}
    (hb : bArgs S o = some (.append, [t, u], [.slice ad xs.length c, .string s])) (hs : St w0 (Sl ad c e 1 f xs :: L) w) (hlen : xs.length + s.size ≤ 1000000000000)
    (h : ∀ ad' c' w', St w0 (Sl ad' c' e 1 f (xs ++ strB s) :: L) w' → okAll w' (opens M A i) ∧ GoR P l M R0 Kk N A rest (S.setO o.dst (.slice ad' (xs ++ strB s).length c')) w') : GoR P l M R0 Kk N A (.ef i rest) S w := by
  subst hfv
  obtain ⟨ti, z, h1, h2, h3, h4, h5⟩ := he.info
  obtain ⟨ad', c', w', hr, hs'⟩ := run_append_str (P := P) (ty := o.type) he.und hu h1 h2 h3 h4 h5 hs s hlen
  obtain ⟨k1, k2⟩ := h ad' c' w' hs'
  refine GoR.run ho hw _ w' (fun a hfit => .inl ?_) k1 k2
  obtain ⟨cs, hrun⟩ := run_bArgs (P := P) hfit hb w
  rw [hrun]
  simp only [builtin, Sem.run_bind]
  rw [hr]
  rfl
end
end Go.Sx
