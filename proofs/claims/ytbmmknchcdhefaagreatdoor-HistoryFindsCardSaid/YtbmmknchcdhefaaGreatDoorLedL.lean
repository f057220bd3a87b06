/-
  What package ledger asks of Go's library.
-/
import Derived.Test.YtbmmknchcdhefaaGreatDoorProg
import Derived.Test.YtbmmknchcdhefaaGreatDoorShelf
import Derived.Test.YtbmmknchcdhefaaGreatDoorLedA
import Derived.Test.YtbmmknchcdhefaaGreatDoorSxT
import Derived.Lib.ItoaMem
import Derived.Lib.ParseIntBCases
namespace Go.Proofs.YtbmmknchcdhefaaGreatDoor
open Go.RowKit Go.Sx
set_option linter.unusedVariables false
set_option linter.unusedSimpArgs false
set_option maxRecDepth 100000
structure Laid (w : World) : Prop where
  tab : Lib.TabIs Tryz.prog w "internal/strconv.uint64pow10" .u64 Lib.pow10Tab
  syn : ∃ t p, w.var? Tryz.prog "strconv.ErrSyntax" = some #[.iface t p]
  rng : ∃ t p, w.var? Tryz.prog "strconv.ErrRange" = some #[.iface t p]
def pu (s : ByteArray) : Int × Bool :=
  match Lib.parseUintB 64 s.data.toList with
  | .ok u => ((u : Nat), true)
  | Lib.NumEnd.syntax => (0, false)
  | .range => (18446744073709551615, false)
theorem pu_range (s : ByteArray) : 0 ≤ (pu s).1 ∧ (pu s).1 < 18446744073709551616 := by
  unfold pu
  split
  · rename_i u h
    have : u ≤ 2 ^ 64 - 1 := by
      unfold Lib.parseUintB at h
      split at h
      · cases h
      · exact Lib.parseUintM_le _ _ 0 u (by omega) h
    simp only
    omega
  · decide
  · decide
theorem parse_spec {w0 w : World} {L : List Asn} (s : ByteArray) (hlim : s.size ≤ 281474976710656) (hL : ∀ w, St w0 L w → Laid w) (hs : St w0 L w) : Calls Tryz.prog 91 #[.string s, .int .i64 10, .int .i64 64] w
    (Ret fun rv w' => (∃ q, rv = .tuple #[.int .u64 (pu s).1, q] ∧ ((pu s).2 = true ∧ q = .nilIface ∨ (pu s).2 = false ∧ ∃ t p, q = .iface t p)) ∧ St w0 L w') := by
  rcases h : Lib.parseUintB 64 s.data.toList with u | _ | _
  · refine (Tryz.strconv_ParseUint_10_at64_ok s (by omega) u h w).mono ?_
    rintro e w' ⟨rfl, hw⟩
    refine ⟨⟨.nilIface, by simp only [pu, h], .inl ⟨by simp only [pu, h], rfl⟩⟩, ?_⟩
    rcases hw with rfl | rfl
    · exact hs
    · refine hs.below' ⟨rfl, rfl, rfl, ?_, fun k hk => ?_⟩
      · simp [Lib.bytesWorld, World.freeze]
      · have hne : ¬ w.heap.size = k := by omega
        have h1 : (Lib.bytesWorld w 5 s).heap[k]? = (w.drew.alloc (.cells (Lib.bytesCells w 5 s) 5)).heap[k]? := by
          simp only [Lib.bytesWorld, World.freeze, Nat.one_ne_zero, if_false, Array.getElem?_modify, if_neg hne]
        rw [h1]
        exact heap_alloc_old w.drew _ hk
  · obtain ⟨t, p, hv⟩ := (hL w hs).syn
    refine (Tryz.strconv_ParseUint_10_at64_syntax_var s hlim h t p w hv).mono ?_
    rintro e w' ⟨n, rfl, -, -, hb⟩
    exact ⟨⟨.iface 162 (.pointer (some ⟨n, 0, none⟩)), by simp only [pu, h], .inr ⟨by simp only [pu, h], 162, .pointer (some ⟨n, 0, none⟩), rfl⟩⟩, hs.below' hb⟩
  · obtain ⟨t, p, hv⟩ := (hL w hs).rng
    refine (Tryz.strconv_ParseUint_10_at64_range_var s hlim h t p w hv).mono ?_
    rintro e w' ⟨n, rfl, -, -, hb⟩
    exact ⟨⟨.iface 162 (.pointer (some ⟨n, 0, none⟩)), by simp only [pu, h], .inr ⟨by simp only [pu, h], 162, .pointer (some ⟨n, 0, none⟩), rfl⟩⟩, hs.below' hb⟩
def dec (n : Int) : ByteArray := ⟨(Lib.decDigits n.toNat).toArray⟩
theorem small_spec {w0 w : World} {L : List Asn} (n : Int) (h0 : 0 ≤ n) (h1 : n < 100) (hs : St w0 L w) : Calls Tryz.prog 95 #[.int .i64 n] w (Ret fun rv w' => rv = .string (dec n) ∧ St w0 L w') := by
  obtain ⟨u, rfl⟩ : ∃ u : Nat, n = u := ⟨n.toNat, by omega⟩
  refine (Tryz.internal_strconv_small u (by omega) w).mono ?_
  rintro e w' ⟨rfl, rfl⟩
  exact ⟨rfl, hs⟩
theorem numDigits_spec {w0 w : World} {L : List Asn} (n : Int) (h0 : 1 ≤ n) (h1 : n < 18446744073709551616) (hL : ∀ w, St w0 L w → Laid w) (hs : St w0 L w) : Calls Tryz.prog 96 #[.int .u64 n] w (Ret fun rv w' => rv = .int .i64 ((dec n).size : Nat) ∧ St w0 L w') := by
  obtain ⟨u, rfl⟩ : ∃ u : Nat, n = u := ⟨n.toNat, by omega⟩
  refine (Tryz.internal_strconv_numDigits u (by omega) (by omega) w (hL w hs).tab).mono ?_
  rintro e w' ⟨rfl, rfl⟩
  refine ⟨?_, hs⟩
  have : (dec (u : Int)).size = Lib.nDigits u := by rw [← Lib.decDigits_length]; rfl
  rw [this]
theorem dec_size (n : Int) (h0 : 0 ≤ n) (h1 : n < 18446744073709551616) : 1 ≤ (dec n).size ∧ (dec n).size ≤ 20 := by
  have e : (dec n).size = Lib.nDigits n.toNat := by rw [← Lib.decDigits_length]; rfl
  rw [e]
  have h2 : Lib.nDigits n.toNat ≤ 20 := by
    by_cases hz : n.toNat = 0
    · rw [hz, ← Lib.decDigits_length, Lib.decDigits]; decide
    · have := Lib.numDigits_eq n.toNat (by omega) (by omega)
      split at this <;> omega
  refine ⟨?_, h2⟩
  rw [← Lib.decDigits_length]
  cases hq : Lib.decDigits n.toNat with
  | nil => rw [Lib.decDigits] at hq; split at hq <;> simp at hq
  | cons => simp
theorem format_spec {w0 w : World} {L : List Asn} {b : Nat} {T : TypeId} (N : Nat) (hN : 20 ≤ N) (n : Int) (h0 : 1 ≤ n) (h1 : n < 18446744073709551616) (hs : St w0 (Cel b (Array.replicate N (.int .u8 0)) T :: L) w) :
    Calls Tryz.prog 97 #[.slice (some ⟨b, 0, none⟩) (dec n).size N, .int .u64 n] w (Ret fun rv w' => rv = .tuple #[] ∧ ∃ cs : Array Value, BytesAt b 0 (Lib.decDigits n.toNat) w' ∧ St w0 (Cel b cs T :: L) w') := by
  obtain ⟨u, rfl⟩ : ∃ u : Nat, n = u := ⟨n.toNat, by omega⟩
  obtain ⟨hz1, hz2⟩ := dec_size u (by omega) h1
  have hsz : (dec (u : Int)).size = Lib.nDigits u := by rw [← Lib.decDigits_length]; rfl
  rw [hsz] at hz1 hz2 ⊢
  obtain ⟨fr, hb, hfr⟩ := hs.holds _ (List.mem_cons_self ..)
  have hlt : b < w.heap.size := hs.lt _ (List.mem_cons_self ..) b rfl
  have hH : Sort.Holds (fun (b : UInt8) => Value.int .u8 (b.toNat : Int)) w b 0 (Array.replicate (Lib.nDigits u) 0) := by
    intro j hj
    rw [Array.size_replicate] at hj
    refine ⟨?_, ?_⟩
    · rw [getElem!_pos _ j (by simpa using hj), Array.getElem_replicate]
      simp only [World.cell?, hb, Nat.zero_add]
      rw [Array.getElem?_replicate, if_pos (show j < N by omega)]
      rfl
    · have := hfr (0 + j) (by rw [Array.size_replicate]; omega)
      simp only [World.frozen?, hb]
      simpa using this
  have hf := Tryz.internal_strconv_formatBase10 b 0 N u (Array.replicate (Lib.nDigits u) 0) w hH (by rw [Array.size_replicate]; exact Lib.lt_pow_nDigits u) (by omega) (by rw [Array.size_replicate]; omega)
  rw [Array.size_replicate] at hf
  refine hf.mono ?_
  rintro e w' ⟨rfl, k, v', dk, rfl, hF⟩
  have hds : dk.size = Lib.nDigits u := hF.size
  refine ⟨rfl, Sort.putCells (fun (b : UInt8) => Value.int .u8 (b.toNat : Int)) 0 dk (Array.replicate N (.int .u8 0)), fun j hj => ?_, ?_⟩
  · have hj' : j < Lib.nDigits u := by rw [← Lib.decDigits_length]; exact hj
    have h1 : (Lib.decDigits u)[j]'(by rw [Lib.decDigits_length]; exact hj') = dk[j]! := Lib.row_is_numeral hF j (by rw [Lib.decDigits_length]; exact hj')
    have h2 := Sort.cell?_putRow (fun (b : UInt8) => Value.int .u8 (b.toNat : Int)) w b 0 _ dk hH (by rw [hds, Array.size_replicate]) j (by omega)
    have h3 : (Lib.decDigits ((u : Int).toNat))[j]'hj = dk[j]! := h1
    rw [h3]
    exact h2
  · have hn : (Sort.putRow (fun (b : UInt8) => Value.int .u8 (b.toNat : Int)) w b 0 dk).heap[b]? = some (.cells (Sort.putCells (fun (b : UInt8) => Value.int .u8 (b.toNat : Int)) 0 dk (Array.replicate N (.int .u8 0))) T fr) := by
      simp only [Sort.putRow, Sort.mapBlock, Array.getElem?_modify, if_true, hb, Option.map_some, Sort.onCells]
    refine St.step hs rfl rfl rfl (by simp [World.drewN, Sort.putRow, Sort.mapBlock]) (fun k hk hn' => ?_) ⟨fr, hn, fun i hi => hfr i (by simpa [Sort.putCells] using hi)⟩ (fun k hk => ⟨.inl hk, ?_⟩)
    · have hne : ¬ b = k := fun e => hn' e.symm
      simp only [World.drewN, Sort.putRow, Sort.mapBlock, Array.getElem?_modify, if_neg hne]
    · have hk' : k = b := hk
      subst hk'
      simpa [World.drewN, Sort.putRow, Sort.mapBlock] using hlt
end Go.Proofs.YtbmmknchcdhefaaGreatDoor
