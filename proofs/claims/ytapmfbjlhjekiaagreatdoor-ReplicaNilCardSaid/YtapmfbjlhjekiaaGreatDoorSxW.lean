/-
  Sx, part W: []byte(s); an array's cells, told as a list of so many. Proved once, for any program. Conditions: none beside each theorem's own.
-/
import Derived.Test.YtapmfbjlhjekiaaGreatDoorEvQ
import Derived.Test.YtapmfbjlhjekiaaGreatDoorSxY
import Derived.Test.YtapmfbjlhjekiaaGreatDoorSxZ
namespace Go.Sx
open Go.RowKit
set_option linter.unusedVariables false
set_option linter.unusedSimpArgs false

theorem list_eta (l : List Int) : l = (List.range l.length).map (fun i => l.getD i 0) := by
  apply List.ext_getElem (by simp)
  intro i h1 h2
  simp [List.getD_eq_getElem?_getD, List.getElem?_eq_getElem h1]

section
variable {P : Program} {R0 : Exit → Act → World → Prop} {N : Nat} {Kk : List KItem} {S : Env} {w w0 : World} {l : List Oper} {M : List Nat} {A : Asked} {rest : PT} {L : List Asn}
theorem rep_flat (m : Nat) : ((List.replicate m (0 : Int)).flatMap fun x => (byteV x).toList) = List.replicate m (Value.int .u8 0) := by
  induction m with
  | zero => rfl
  | succ m ih => rw [List.replicate_succ, List.replicate_succ, List.flatMap_cons, ih]; rfl
theorem strRow_flat (s : ByteArray) (m : Nat) : (arrCells byteV (strB s ++ List.replicate m 0)).toList = strV s ++ List.replicate m (Value.int .u8 0) := by
  show ((strB s ++ List.replicate m 0).flatMap fun x => (byteV x).toList).toArray.toList = _
  rw [List.flatMap_append, strV_flat, rep_flat]
/-- []byte(s): the bytes, and some zeros behind them. -/
theorem GoR.strBytes {i : Nat} {o : Oper} (ho : l[i]? = some o) (hw : wantE l.toArray S o = some true) {src dst e : TypeId} {f : Int → Array Value} (hfv : f = byteV) (s : ByteArray) (ha : cvArgs S o = some (src, dst, .string s)) (h1 : P.underlying src = some .string) (h2 : P.underlying dst = some (.slice e)) (h3 : P.underlying e = some (.int .u8)) (hsz : s.size ≤ 1000000000) (hs : St w0 L w)
    (h : ∀ b m w', St w0 (Cel b (arrCells f (strB s ++ List.replicate m 0)) e :: L) w' → okAll w' (opens M A i) ∧ GoR P l M R0 Kk N A rest (S.setO o.dst (.slice (some ⟨b, 0, none⟩) (strB s).length ((strB s).length + m))) w') : GoR P l M R0 Kk N A (.ef i rest) S w := by
  subst hfv
  obtain ⟨cap, hc, hcm, hr⟩ := Go.Ev.run_strBytes (P := P) e s hsz w
  have harr : ((s.toList.map fun b => Value.int .u8 (b.toNat : Int)) ++ List.replicate (cap - s.size) (Value.int .u8 0)) = (arrCells byteV (strB s ++ List.replicate (cap - s.size) 0)).toList := by
    rw [strRow_flat, ByteArray.toList_eq]; rfl
  rw [harr] at hr
  have hcap : cap = (strB s).length + (cap - s.size) := by rw [strB_length]; omega
  have hs2 : St w0 (Cel w.heap.size (arrCells byteV (strB s ++ List.replicate (cap - s.size) 0)) e :: L) { w with drawn := w.drawn + 1, heap := w.heap.push (.cells (arrCells byteV (strB s ++ List.replicate (cap - s.size) 0)).toList.toArray e ((arrCells byteV (strB s ++ List.replicate (cap - s.size) 0)).toList.length, (arrCells byteV (strB s ++ List.replicate (cap - s.size) 0)).toList.length + 1)) } := by
    have hd : St w0 L { w with drawn := w.drawn + 1 } := hs.drew
    refine St.new hd rfl rfl rfl (by simp) (fun b hb => ?_) ⟨((arrCells byteV (strB s ++ List.replicate (cap - s.size) 0)).size, (arrCells byteV (strB s ++ List.replicate (cap - s.size) 0)).size + 1), by simp, fun i hi h => ?_⟩ (fun b hb => ?_)
    · have hb' : b < w.heap.size := hb
      simp only [Array.getElem?_push]; rw [if_neg (by omega)]
    · omega
    · have : b = w.heap.size := hb
      subst this
      simp
  obtain ⟨k1, k2⟩ := h _ _ _ hs2
  refine GoR.run ho hw _ _ (fun a hfit => .inl ?_) k1 k2
  unfold cvArgs at ha
  split at ha
  · rename_i s' d' x' hop
    split at ha
    · rename_i v hv
      simp only [Option.some.injEq, Prod.mk.injEq] at ha
      obtain ⟨rfl, rfl, rfl⟩ := ha
      have hv' := hfit.op hv
      generalize a.eval = ρ at hv' ⊢
      have hcv : (convert s' d' (ρ x')).run P w = (Conv.stringToBytes e s).run P w := by
        rw [hv']
        simp only [convert, Sem.run_bind, run_underlying h1, run_underlying h2, Result.andThen_ok, run_underlying h3]
      simp only [execOp, hop, Sem.run_bind, hcv, hr, Result.andThen_ok, Sem.run_pure]
      rw [← hcap, strB_length]
    · cases ha
  · cases ha
/-- what such a slice reads as -/
theorem strRow_rows {w : World} {L : List Asn} {b e m : Nat} {s : ByteArray} (hs : St w0 L w) (j : Nat) (hj : L[j]? = some (Cel b (arrCells byteV (strB s ++ List.replicate m 0)) e)) : RowsAt w (some ⟨b, 0, none⟩) (strB s).length 1 (fun k => byteV ((strB s).getD k 0)) := by
  have h := arr_rows hs j hj (f := byteV) (size := 1) (fun _ => rfl) (0 : Int)
  have h2 := RowsAt.takeL h (strB s).length (by simp)
  rw [List.take_left' rfl] at h2
  exact h2
end
end Go.Sx
