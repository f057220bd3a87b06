/-
  Sx, part Z: string(bytes) of a slice that is told as a list. Proved once, for any program. Conditions: none beside each theorem's own.
-/
import Derived.Test.YtapmfbjlhjekiaaGreatDoorSxY
import Derived.Test.YtapmfbjlhjekiaaGreatDoorSxT
import Derived.Laws.BytesString
namespace Go.Sx
open Go.RowKit
set_option linter.unusedVariables false
set_option linter.unusedSimpArgs false
section
variable {P : Program} {R0 : Exit → Act → World → Prop} {N : Nat} {Kk : List KItem} {S : Env} {w w0 : World} {l : List Oper} {M : List Nat} {A : Asked} {rest : PT} {L : List Asn}
/-- A row of bytes as a string. -/
def strOf (xs : List Int) : ByteArray := ⟨(xs.map u8of).toArray⟩
theorem GoR.bytesStrO {i : Nat} {o : Oper} (ho : l[i]? = some o) (hw : wantE l.toArray S o = some true) {src dst e : TypeId} {ad : Option Addr} {n cap : Nat} {f : Int → Array Value} (hfv : f = byteV) (xs : List Int) (hn : n = xs.length) (ha : cvArgs S o = some (src, dst, .slice ad n cap)) (h1 : P.underlying src = some (.slice e)) (h2 : P.underlying e = some (.int .u8)) (h3 : P.underlying dst = some .string)
    (hb : ∀ x ∈ xs, 0 ≤ x ∧ x < 256) (hpos : 0 < xs.length) (hr : RowsAt w ad xs.length 1 (fun k => f (xs.getD k 0)))
    (h : GoR P l M R0 Kk N ((i, [.holds (fun w => RowsAt w ad xs.length 1 (fun k => f (xs.getD k 0)))]) :: A) rest (S.setO o.dst (.string (strOf xs))) w) : GoR P l M R0 Kk N A (.rd i rest) S w := by
  subst hfv hn
  refine GoR.read ho hw [.holds (fun w => RowsAt w ad xs.length 1 (fun k => byteV (xs.getD k 0)))] _ (fun a w' hf hn => ?_) ⟨hr, trivial⟩ h
  have hq : RowsAt w' ad xs.length 1 (fun k => byteV (xs.getD k 0)) := hn.1
  obtain ⟨b, off, rfl, hc⟩ := hq hpos
  have hl : (xs.map u8of).length = xs.length := List.length_map ..
  have hB : BytesAt b off (xs.map u8of) w' := by
    intro j hj
    rw [hl] at hj
    have h5 : w'.cell? ⟨b, off + j * 1 + 0, none⟩ = (byteV (xs.getD j 0))[0]? := hc j hj 0 (by omega)
    have h6 : xs.getD j 0 = xs[j] := by rw [List.getD_eq_getElem?_getD, List.getElem?_eq_getElem hj]; rfl
    have h7 := hb xs[j] (List.getElem_mem hj)
    rw [Nat.mul_one, Nat.add_zero, h6] at h5
    rw [h5, List.getElem_map, u8of_toNat h7.1 h7.2]
    rfl
  unfold cvArgs at ha
  split at ha
  · rename_i s' d' x' hop
    split at ha
    · rename_i v hv
      simp only [Option.some.injEq, Prod.mk.injEq] at ha
      obtain ⟨rfl, rfl, rfl⟩ := ha
      have hv' := hf.op hv
      generalize a.eval = ρ at hv' ⊢
      have hr := run_convert_bytes_back (P := P) w' s' d' e ⟨b, off, none⟩ cap (xs.map u8of) h1 h2 h3 (fun j hj => by rw [add_mk]; exact hB j hj)
      rw [hl] at hr
      simp only [execOp, hop, hv', Sem.run_bind, hr, Result.andThen_ok]
      rfl
    · cases ha
  · cases ha
theorem run_conv0 (w : World) (src e : TypeId) (hs : P.underlying src = some (.slice e)) (he : P.underlying e = some (.int .u8)) (p : Option Addr) (c : Nat) (dst : TypeId) (hd : P.underlying dst = some .string) :
    (convert src dst (.slice p 0 c)).run P w = .ok (.string ByteArray.empty) w := by
  rw [run_convert_bytes_string w src dst e _ 0 c hs he hd]
  cases p <;> simp [Conv.bytesToString, loadCells]
  all_goals rfl
/-- The same, of a row that may be empty. -/
theorem GoR.bytesStrG {i : Nat} {o : Oper} (ho : l[i]? = some o) (hw : wantE l.toArray S o = some true) {src dst e : TypeId} {ad : Option Addr} {n cap : Nat} {f : Int → Array Value} (hfv : f = byteV) (xs : List Int) (hn : n = xs.length) (ha : cvArgs S o = some (src, dst, .slice ad n cap)) (h1 : P.underlying src = some (.slice e)) (h2 : P.underlying e = some (.int .u8)) (h3 : P.underlying dst = some .string)
    (hb : ∀ x ∈ xs, 0 ≤ x ∧ x < 256) (hr : RowsAt w ad xs.length 1 (fun k => f (xs.getD k 0)))
    (h : GoR P l M R0 Kk N ((i, [.holds (fun w => RowsAt w ad xs.length 1 (fun k => f (xs.getD k 0)))]) :: A) rest (S.setO o.dst (.string (strOf xs))) w) : GoR P l M R0 Kk N A (.rd i rest) S w := by
  subst hfv hn
  refine GoR.read ho hw [.holds (fun w => RowsAt w ad xs.length 1 (fun k => byteV (xs.getD k 0)))] _ (fun a w' hf hn => ?_) ⟨hr, trivial⟩ h
  have hq : RowsAt w' ad xs.length 1 (fun k => byteV (xs.getD k 0)) := hn.1
  by_cases hpos : 0 < xs.length
  case neg =>
    have hx : xs = [] := List.length_eq_zero_iff.1 (by omega)
    subst hx
    unfold cvArgs at ha
    split at ha
    · rename_i s' d' x' hop
      split at ha
      · rename_i v hv
        simp only [Option.some.injEq, Prod.mk.injEq] at ha
        obtain ⟨rfl, rfl, rfl⟩ := ha
        have hv' := hf.op hv
        generalize a.eval = ρ at hv' ⊢
        simp only [execOp, hop, hv', Sem.run_bind, run_conv0 w' s' e h1 h2 ad cap d' h3, List.length_nil, Result.andThen_ok]
        rfl
      · cases ha
    · cases ha
  obtain ⟨b, off, rfl, hc⟩ := hq hpos
  have hl : (xs.map u8of).length = xs.length := List.length_map ..
  have hB : BytesAt b off (xs.map u8of) w' := by
    intro j hj
    rw [hl] at hj
    have h5 : w'.cell? ⟨b, off + j * 1 + 0, none⟩ = (byteV (xs.getD j 0))[0]? := hc j hj 0 (by omega)
    have h6 : xs.getD j 0 = xs[j] := by rw [List.getD_eq_getElem?_getD, List.getElem?_eq_getElem hj]; rfl
    have h7 := hb xs[j] (List.getElem_mem hj)
    rw [Nat.mul_one, Nat.add_zero, h6] at h5
    rw [h5, List.getElem_map, u8of_toNat h7.1 h7.2]
    rfl
  unfold cvArgs at ha
  split at ha
  · rename_i s' d' x' hop
    split at ha
    · rename_i v hv
      simp only [Option.some.injEq, Prod.mk.injEq] at ha
      obtain ⟨rfl, rfl, rfl⟩ := ha
      have hv' := hf.op hv
      generalize a.eval = ρ at hv' ⊢
      have hr := run_convert_bytes_back (P := P) w' s' d' e ⟨b, off, none⟩ cap (xs.map u8of) h1 h2 h3 (fun j hj => by rw [add_mk]; exact hB j hj)
      rw [hl] at hr
      simp only [execOp, hop, hv', Sem.run_bind, hr, Result.andThen_ok]
      rfl
    · cases ha
  · cases ha
end
end Go.Sx
