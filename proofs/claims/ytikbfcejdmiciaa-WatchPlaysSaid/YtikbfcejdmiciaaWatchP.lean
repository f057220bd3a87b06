/-
  WatchPlays returns true for every input. Conditions: none.
-/
import Derived.Test.YtikbfcejdmiciaaRows
import Derived.Test.YtikbfcejdmiciaaWatchB
import Derived.Test.YtikbfcejdmiciaaSxF
namespace Go.Proofs.Ytikbfcejdmiciaa.watchPlays
open Go.ChangeShapes Go.WideShapes Go.ChangeAt Go.RowKit Go.Sx
open Go.ChangeMaps (open_string shut_string)
set_option linter.unusedVariables false
set_option linter.unusedSimpArgs false

theorem sv_of {cs : Array Value} (h : fitsAll [.int .u64, .bool, .bool, .int .u64, .int .u64] cs.toList) : ∃ x : SV, 0 ≤ x.now ∧ cs = SV.cells x := by
  obtain ⟨l⟩ := cs
  have hl := fitsAll_length h
  simp only [List.length_cons, List.length_nil] at hl
  match l, hl with
  | [c0, c1, c2, c3, c4], _ =>
    obtain ⟨⟨n0, rfl, w0⟩, ⟨b1, rfl⟩, ⟨b2, rfl⟩, ⟨n3, rfl, _⟩, ⟨n4, rfl, _⟩, _⟩ := h
    exact ⟨⟨n0, b1, b2, n3, n4⟩, (wf_u64 w0).1, rfl⟩
theorem own : ownKnob Try.prog.godebug = none := by kernel_rfl
theorem laidOut : laidOutB Try.prog = true := by kernel_rfl
set_option maxRecDepth 100000 in
theorem lifted (os : Os) (started : os.Started) (H : Type) (enc : TypeId × Value → H) :
    ReturnsInHanded {} Try.checked os 3 .any (Rows.watchPlaysSpec.pre6 enc Try.prog Try.f3 Rows.watchPlaysRow.domain false) (Rows.watchPlaysSpec.post enc Try.prog Try.f3 false true false false) := by
  refine returnsInHanded_of_change (C := Try.checked) own started (by kernel_rfl) Try.func3
    (ChangeSpec.witness6 (enc := enc) (C := Try.checked) false ⟨#[], #[.slice none 0 0], []⟩ 8 (by kernel_rfl) (by kernel_rfl) (by kernel_rfl) (by kernel_rfl)) ?_
  intro W base args ds gs before hval0 hW hcnd _
  have hval : ∀ (j : Nat) t v, Try.f3.params[j]? = some t → args[j]? = some v → Value.okWide Try.prog W .any base t v := hval0
  have hW' := hW
  obtain ⟨p, q, hA0, hV, rfl, hfz, hnd⟩ := hW
  have hA : DataW.TrodAll enc Try.prog W 0 (fun _ => true) true Try.f3.params.toList args.toList ds p := hA0
  rw [Try.params3] at hA hval
  obtain ⟨v0, vs0, d0, ds0, p0, q0, hargs, rfl, rfl, h0, r0⟩ := trodAll_cons hA
  obtain ⟨rfl, rfl, rfl⟩ := trodAll_nil r0
  obtain rfl : args = #[v0] := by cases args; simp_all
  obtain ⟨rfl, rfl⟩ := trodVars_none hV
  have k0 := h0
  have lt0 : ∀ x ∈ p0, x.block < W.heap.size := by obtain ⟨m, hm⟩ := k0; exact DataW.trod_lt m _ _ _ hm
  obtain ⟨a0, len0, cap0, rfl⟩ := okWide_slice Try.underlying22 (hval 0 22 v0 rfl rfl)
  obtain ⟨hn0, cell0, hr0, hf0⟩ := open_flat (m := 6) (ks := [.int .u64, .bool, .bool, .int .u64, .int .u64]) Try.underlying22 (by kernel_rfl) (by kernel_rfl) (by decide) k0
  obtain ⟨xs, hx, hc⟩ := pickAll (⟨0, false, false, 0, 0⟩ : SV) (fun x => 0 ≤ x.now) (by decide) SV.cells len0 cell0 (fun k hk => sv_of (hf0 k hk))
  clear hA0 hval0
  refine (Calls.law (plays_walk W a0 len0 cap0 xs (by unfold maxLen at hn0; omega) hx (hr0.congr hc))).mono fun e W' ⟨he, bel⟩ => ?_
  subst he
  exact ⟨_, rfl, _, _, _, [], _, [], hW', trodAll_mk1 (shut_bool Try.underlying4 _), (trodAll_cons_mk (Below.trod laidOut (by kernel_rfl) (of_decide_eq_true (by kernel_rfl)) k0 bel lt0) (trodAll_mk0)), rfl, bel.frame _, fun h => by cases h⟩

theorem over : Rows.watchPlaysRow.holds Try.pinned (OpenSpec.ofChange Rows.watchPlaysSpec) :=
  OpenClaim.holds_of_wide 3 Try.f3 rfl rfl rfl rfl rfl rfl rfl ⟨rfl, rfl, rfl, rfl, rfl⟩ rfl rfl rfl rfl rfl (by kernel_rfl) Try.func3 (by kernel_rfl)
    (of_decide_eq_true (by kernel_rfl)) (by unfold Func.isWrapper; first | (rw [if_pos (by decide +kernel)]; kernel_rfl) | (rw [if_neg (by decide +kernel)]; exact ⟨rfl, rfl⟩))
    (fun os started H enc _ => lifted os started H enc)

theorem proved : Rows.WatchPlaysSaid := over
end Go.Proofs.Ytikbfcejdmiciaa.watchPlays
