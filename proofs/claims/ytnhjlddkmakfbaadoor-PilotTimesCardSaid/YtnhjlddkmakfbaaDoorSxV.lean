/-
  Sx, part V: clear of a map. Proved once, for any program. Conditions: none beside each theorem's own.
-/
import Derived.Test.YtnhjlddkmakfbaaDoorSxK
namespace Go.Sx
open Go.RowKit
open Go.ChangeMaps (setBlock)
set_option linter.unusedVariables false
section
variable {P : Program} {R0 : Exit → Act → World → Prop} {N : Nat} {Kk : List KItem} {S : Env} {w w0 : World} {l : List Oper} {M : List Nat} {A : Asked} {rest : PT} {L : List Asn} {α β : Type} [DecidableEq α] {ek : α → Value} {ev : β → Value}

/-- clear(m) -/
theorem GoR.clearMap {i : Nat} {o : Oper} (ho : l[i]? = some o) (hw : wantE l.toArray S o = some true) {T K E : TypeId} (hl : MapLaw P T ek ev K E) {r : Nat} (hb : bArgs S o = some (.clear, [T], [.map (some r)])) (hs : St w0 L w) (j : Nat) {m : List (α × β)} (hj : L[j]? = some (MapA ek ev r m))
    (h : ∀ w', St w0 (MapA ek ev r [] :: L.eraseIdx j) w' → okAll w' (opens M A i) ∧ GoR P l M R0 Kk N A rest (S.setO o.dst (.tuple #[])) w') : GoR P l M R0 Kk N A (.ef i rest) S w := by
  have key : ∃ w', (Builtin.clear_ #[T] o.type #[.map (some r)]).run P w = .ok (.tuple #[]) w' ∧ St w0 (MapA ek ev r [] :: L.eraseIdx j) w' := by
    have hs2 := hs.pull j hj
    obtain ⟨x, clk, h⟩ := hs2.holds _ (List.mem_cons_self ..)
    have hlt : r < w.heap.size := hs2.lt _ (List.mem_cons_self ..) r rfl
    have hblk := h.blk
    have hg : (getObj r).run P w = .ok (.map (esOf ek ev x) clk) w := by simp [getObj, Sem.run, hblk]
    refine ⟨setBlock w r (.map #[] clk), ?_, St.setMap (A' := MapA ek ev r []) (o := .map #[] clk) hs2 ⟨[], clk, ⟨by simp [setBlock, hlt, esOf], rfl, by simp, by simp, by simp⟩⟩ (fun b hb => hb)⟩
    simp only [Builtin.clear_, List.getElem?_toArray, List.getElem?_cons_zero, Sem.run_bind, run_underlying hl.und, Result.andThen_ok, hg, run_setMap _ hblk, Sem.run_pure]
  obtain ⟨w', hr, hs'⟩ := key
  obtain ⟨k1, k2⟩ := h w' hs'
  refine GoR.run ho hw _ w' (fun a hfit => .inl ?_) k1 k2
  obtain ⟨cs, hrun⟩ := run_bArgs (P := P) hfit hb w
  rw [hrun]
  simp only [builtin, Sem.run_bind]
  rw [hr]
  rfl
end
end Go.Sx
