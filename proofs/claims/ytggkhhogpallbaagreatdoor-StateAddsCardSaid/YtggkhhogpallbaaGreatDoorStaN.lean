/-
  StateAdds returns true for every input: the row, and its tied card. Conditions: none beside the row's own list of laid variables.
-/
import Derived.Test.YtggkhhogpallbaaGreatDoorRows
import Derived.Test.YtggkhhogpallbaaGreatDoorCards
import Derived.Test.YtggkhhogpallbaaGreatDoorTie
import Derived.Test.YtggkhhogpallbaaGreatDoorStaW
import Derived.WalkKit
import Derived.ProofKit
import Derived.OpenShut
import Derived.Deep.DeepHandedRow
import Derived.Lib.LaidTab
import Derived.Stop.LaidErr
namespace Go.Proofs.YtggkhhogpallbaaGreatDoor.stateAdds
open Go.ChangeShapes Go.WideShapes Go.ChangeAt Go.RowKit Go.Sx
open Go.ChangeMaps (open_string shut_string)
set_option linter.unusedVariables false
set_option linter.unusedSimpArgs false
theorem own : ownKnob Tryz.prog.godebug = none := by kernel_rfl
theorem laidOut : laidOutB Tryz.prog = true := by kernel_rfl
theorem star : "*" ++ "errors.errorString" = "*errors.errorString" := by decide
theorem row152 (u : TypeId) (h : Tryz.prog.typeName? 3 u = some "*errors.errorString") : u = 152 :=
  typeName_ptr_named (nm := "errors.errorString") (by rw [star]; kernel_rfl) (by kernel_rfl) (by decide) u (by rw [star]; exact h)

theorem laidW {W : World} (h0 : laidMetH Tryz.prog Rows.stateAddsRow.laid W) : Laid W := by
  have h : laidMet Tryz.prog Rows.stateAddsRow.laid W := h0
  have h2 := h.tail.tail
  obtain ⟨a0, s0, e0, -⟩ := laid_sentinel (g := 3) h2.tail (by kernel_rfl) (by kernel_rfl) Tryz.underlying126 row152 Tryz.underlying152 Tryz.underlying154 rfl rfl Tryz.underlying9 (by kernel_rfl) (by kernel_rfl)
  obtain ⟨a1, s1, e1, -⟩ := laid_sentinel (g := 2) h2.tail.tail (by kernel_rfl) (by kernel_rfl) Tryz.underlying126 row152 Tryz.underlying152 Tryz.underlying154 rfl rfl Tryz.underlying9 (by kernel_rfl) (by kernel_rfl)
  have ht : Lib.TabIs Tryz.prog W "internal/strconv.uint64pow10" .u64 Lib.pow10Tab := Lib.tabIs_of_head (g := 1) (by kernel_rfl) (by kernel_rfl) Tryz.underlying145 Tryz.underlying32 (by kernel_rfl) (by kernel_rfl) h2
  exact ⟨ht, ⟨_, _, e1⟩, ⟨_, _, e0⟩⟩

def args0 : Array Value := #[.slice none 0 0]
noncomputable def laidWorld (os : Os) : World :=
  let N := (World.settled Tryz.prog os).heap.size
  let w0 := World.holding Tryz.prog os ⟨#[.cells #[.string ⟨#[118, 97, 108, 117, 101, 32, 111, 117, 116, 32, 111, 102, 32, 114, 97, 110, 103, 101]⟩] 154, .cells #[.string ⟨#[105, 110, 118, 97, 108, 105, 100, 32, 115, 121, 110, 116, 97, 120]⟩] 154], #[], []⟩
  let put (h : Array Obj) (g : Nat) (cs : Array Value) : Array Obj := h.modify g fun
    | .cells _ t frozen => .cells cs t frozen
    | o => o
  let h0 := put (put w0.heap 3 #[.iface 152 (.pointer (some ⟨N, 0, none⟩))]) 2 #[.iface 152 (.pointer (some ⟨N + 1, 0, none⟩))]
  let h1 := put h0 1 (Lib.pow10Tab.map fun z => Value.int .u64 z).toArray
  let h2 := put h1 4 (match (Rows.laid_math_bits_deBruijn32tab : DataW Unit) with | .agg l => (l.map fun | .lit (.int k z) => Value.int k z | _ => .int .u8 0).toArray | _ => #[])
  let h3 := put h2 5 (match (Rows.laid_math_bits_deBruijn64tab : DataW Unit) with | .agg l => (l.map fun | .lit (.int k z) => Value.int k z | _ => .int .u8 0).toArray | _ => #[])
  { w0 with heap := h3 }
theorem laid_met (os : Os) : laidMet Tryz.prog Rows.stateAddsRow.laid ((laidWorld os).forCall (fun _ _ => 0) ⟨#[], args0, []⟩).memory :=
  laidMet_of_run' 8 (by kernel_rfl) (by kernel_rfl)
theorem reads (os : Os) {H : Type} (enc : TypeId × Value → H) : ∃ places, DataW.whole enc Tryz.prog ((laidWorld os).forCall (fun _ _ => 0) ⟨#[], args0, []⟩).memory Tryz.f3.params.toList Rows.stateAddsSpec.vars false args0.toList 8 = some ([.nil], [], places) :=
  ⟨[], by kernel_rfl⟩
set_option maxRecDepth 100000 in
theorem contract (H : Type) (enc : TypeId × Value → H) (W : World) (base : Nat) (args : Array Value) (ds gs : List (DataW H)) (before : List MemPlace)
    (hval : ∀ (j : Nat) t v, Tryz.f3.params[j]? = some t → args[j]? = some v → Value.okWide Tryz.prog W .any base t v)
    (hW : DataW.Whole enc Tryz.prog Tryz.f3.params.toList Rows.stateAddsSpec.vars false W args.toList ds gs before)
    (hsz : (DataW.weightsEach Tryz.prog (Tryz.f3.params.toList ++ []) (ds ++ gs)).all (· ≤ reachBytes) = true) (hL : laidMetH Tryz.prog Rows.stateAddsRow.laid W) :
    Calls Tryz.prog 3 args W fun e W' => ∃ v, e = .returned v ∧ Rows.stateAddsSpec.post enc Tryz.prog Tryz.f3 false true false false W args v W' := by
  have hW' := hW
  obtain ⟨p, q, hA0, hV, rfl, hfz, hnd⟩ := hW
  have hA : DataW.TrodAll enc Tryz.prog W 0 (fun _ => true) true Tryz.f3.params.toList args.toList ds p := hA0
  rw [Tryz.params3] at hA hval hsz
  obtain ⟨v0, vs0, d0, ds0, p0, q0, hargs, rfl, rfl, h0, r0⟩ := trodAll_cons hA
  obtain ⟨rfl, rfl, rfl⟩ := trodAll_nil r0
  obtain rfl : args = #[v0] := by cases args; simp_all
  obtain ⟨rfl, rfl⟩ := trodVars_none hV
  have k0 := h0
  have lt0 : ∀ x ∈ p0, x.block < W.heap.size := by obtain ⟨m, hm⟩ := k0; exact DataW.trod_lt m _ _ _ hm
  obtain ⟨ad0, len0, c0, rfl⟩ := okWide_slice Tryz.underlying22 (hval 0 22 v0 rfl rfl)
  obtain ⟨cap0, mx0, nn0, wl0, cell0, hr0, hf0⟩ := open_flat_w (m := 8) (ks := ReqV.kinds) Tryz.underlying22 (by kernel_rfl) (by kernel_rfl) (by decide) k0
  have by0 : Tryz.prog.bytesOf 37 = 128 := by kernel_rfl
  have ln0 : len0 * 128 ≤ 140737488351232 := by
    rcases wl0 with h | ⟨q, hq1, hq2⟩
    · omega
    · have h2 := sized_mem hsz (j := 0) rfl rfl hq1
      rw [by0] at hq2; omega
  obtain ⟨l0, hl0, ok0, rw0⟩ := list_of_cells dReq (f := ReqV.cells) ReqV.OK hr0 (fun k hk => (ReqV.of (hf0 k hk).1 (fun s hs => sized_mem hsz (j := 0) rfl rfl ((hf0 k hk).2 s hs))))
  subst hl0
  clear hA0
  refine (Calls.law (adds_walk W (laidW hL) ad0 c0 l0 ok0 (by omega) rw0)).mono fun e W' ⟨he, bel⟩ => ?_
  subst he
  exact ⟨_, rfl, _, _, _, [], _, [], hW', trodAll_mk1 (shut_bool Tryz.underlying4 _), (trodAll_cons_mk (Below.trod laidOut (by kernel_rfl) (of_decide_eq_true (by kernel_rfl)) k0 bel lt0) (trodAll_mk0)), rfl, bel.frame _, fun h => by cases h⟩

set_option maxRecDepth 100000 in
theorem lifted (os : Os) (started : os.Started) (H : Type) (enc : TypeId × Value → H) (F : Stop.Interp) :
    ReturnsInHanded {} Tryz.checked os 3 .any ((OpenSpec.ofChange Rows.stateAddsSpec).preRow enc Tryz.prog Tryz.f3 Rows.stateAddsRow.domain false Rows.stateAddsRow.laid) (((OpenSpec.ofChange Rows.stateAddsSpec).at F).post enc Tryz.prog Tryz.f3 false true false false) := by
  obtain ⟨places, hx⟩ := reads os enc
  refine returnsInHanded_of_row (C := Tryz.checked) (s := OpenSpec.ofChange Rows.stateAddsSpec) own started (by kernel_rfl) Tryz.func3
    (witness_row_at (enc := enc) (C := Tryz.checked) false (laidWorld os) args0 rfl (by kernel_rfl) (by kernel_rfl) (by kernel_rfl)
      (OpenSpec.preRow_of_cond 8 hx (by kernel_rfl) (fun k hk => by cases hk) (by kernel_rfl) (laid_met os))) ?_
  intro W base args ds gs before hval hW _ _ hsz hL _ _
  exact contract H enc W base args ds gs before hval hW hsz hL

theorem q1 : laidOutB Tryz.pinned.checked.prog = true := by kernel_rfl
theorem q2 : mapsRowed Tryz.pinned.checked.prog = true := by kernel_rfl
theorem q3 : (Rows.stateAddsRow.inPlace == Tryz.pinned.checked.prog.inPlace 3) = true := by kernel_rfl
theorem q4 : (Rows.stateAddsRow.unfollowed == Tryz.pinned.checked.prog.unfollowed 3) = true := by kernel_rfl
theorem q5 : (Rows.stateAddsRow.recurses == Tryz.pinned.checked.prog.recurses 3) = true := by kernel_rfl
theorem q6 : (Rows.stateAddsRow.named == Tryz.pinned.checked.prog.varsNamed 3) = true := by kernel_rfl
theorem q7 : (Rows.stateAddsRow.plainKeys == Tryz.pinned.checked.prog.plainKeys) = true := by kernel_rfl
theorem q8 : Tryz.pinned.checked.prog.mayEnter = true := by kernel_rfl
theorem q9 : (Rows.stateAddsRow.lifted == Tryz.pinned.checked.prog.liftsFinal) = true := by kernel_rfl
theorem q10 : (Tryz.pinned.checked.prog.make == some Rows.stateAddsRow.make) = true := by kernel_rfl
theorem q11 : Tryz.pinned.checked.prog.stopsHeard = true := by kernel_rfl
theorem facts : joinedFacts Tryz.pinned.checked.prog 3 Tryz.f3 (OpenSpec.ofChange Rows.stateAddsSpec).bare Rows.stateAddsRow = true := by
  unfold joinedFacts
  simp only [Bool.and_eq_true]
  repeat' apply And.intro
  all_goals first
    | with_reducible exact q1
    | with_reducible exact q2
    | with_reducible exact q3
    | with_reducible exact q4
    | with_reducible exact q5
    | with_reducible exact q6
    | with_reducible exact q7
    | with_reducible exact q8
    | with_reducible exact q9
    | with_reducible exact q10
    | with_reducible exact q11
    | kernel_rfl
theorem named_ : Tryz.pinned.checked.prog.funcNamed Rows.stateAddsRow.func = some 3 := by kernel_rfl
theorem inst_ : Tryz.f3.isInstance Tryz.pinned.checked.prog Rows.stateAddsRow.origin Rows.stateAddsRow.targs := of_decide_eq_true (by kernel_rfl)
theorem wrap_ : Tryz.f3.isWrapper Tryz.pinned.checked.prog Rows.stateAddsRow.wrapper Rows.stateAddsRow.mainSum := by unfold Func.isWrapper; first | (rw [if_pos (by decide +kernel)]; kernel_rfl) | (rw [if_neg (by decide +kernel)]; exact ⟨rfl, rfl⟩)
theorem said : Rows.StateAddsSaid :=
  OpenClaim.holds_of_cond 3 Tryz.f3 rfl rfl rfl rfl rfl rfl rfl ⟨rfl, rfl, rfl, rfl, rfl⟩ rfl rfl rfl rfl rfl named_ Tryz.func3 facts
    inst_ wrap_
    (fun os started H enc _ F => by rw [OpenClaim.pre_eq_preRow]; exact lifted os started H enc F)

theorem plain (f : FuncId) (fn : Func) (hf : Tryz.pinned.checked.prog.funcNamed "ratchet/ratchetlaw11.StateAdds" = some f) (hfn : Tryz.pinned.checked.prog.funcs[f]? = some fn) :
    true = Tryz.pinned.checked.prog.looks [] ∧ ∀ (j : Nat) t, fn.params[j]? = some t → Tryz.pinned.checked.prog.wantsStandIn t = false := by
  obtain rfl : f = 3 := Option.some.inj ((show Tryz.prog.funcNamed "ratchet/ratchetlaw11.StateAdds" = some 3 by kernel_rfl).symm.trans hf) |>.symm
  obtain rfl : fn = Tryz.f3 := (Option.some.inj (Tryz.func3.symm.trans hfn)).symm
  refine ⟨by kernel_rfl, fun j t ht => ?_⟩
  rw [Tryz.params3] at ht
  have hm := Array.mem_of_getElem? ht
  simp only [List.mem_toArray, List.mem_cons, List.not_mem_nil, or_false] at hm
  subst hm
  exact (show Tryz.prog.wantsStandIn 22 = false by kernel_rfl)

theorem proved : Rows.StateAddsCardSaid :=
  Claim7.holds_tied_plain_at .later [] _ _ _ _ said (fun _ h => by cases h) (by kernel_rfl) (fun _ h => by cases h) stateAdds_row_tie rfl ⟨rfl, rfl⟩ (by kernel_rfl) rfl plain (by kernel_rfl)
end Go.Proofs.YtggkhhogpallbaaGreatDoor.stateAdds
