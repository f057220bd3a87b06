/-
  HistoryFinds returns true for every input: the row, and its tied card. Conditions: none beside the row's own list of laid variables.
-/
import Derived.Test.YtbmmknchcdhefaaGreatDoorRows
import Derived.Test.YtbmmknchcdhefaaGreatDoorCards
import Derived.Test.YtbmmknchcdhefaaGreatDoorTie
import Derived.Test.YtbmmknchcdhefaaGreatDoorHiFW
import Derived.WalkKit
import Derived.ProofKit
import Derived.OpenShut
import Derived.Deep.DeepHandedRow
import Derived.Lib.LaidTab
import Derived.Stop.LaidErr
namespace Go.Proofs.YtbmmknchcdhefaaGreatDoor.historyFinds
open Go.ChangeShapes Go.WideShapes Go.ChangeAt Go.RowKit Go.Sx
open Go.ChangeMaps (open_string shut_string)
set_option linter.unusedVariables false
set_option linter.unusedSimpArgs false
theorem own : ownKnob Tryz.prog.godebug = none := by kernel_rfl
theorem laidOut : laidOutB Tryz.prog = true := by kernel_rfl
theorem star : "*" ++ "errors.errorString" = "*errors.errorString" := by decide
theorem row177 (u : TypeId) (h : Tryz.prog.typeName? 3 u = some "*errors.errorString") : u = 177 :=
  typeName_ptr_named (nm := "errors.errorString") (by rw [star]; kernel_rfl) (by kernel_rfl) (by decide) u (by rw [star]; exact h)
theorem laidW {W : World} (h0 : laidMetH Tryz.prog Rows.historyFindsRow.laid W) : Laid W := by
  have h : laidMet Tryz.prog Rows.historyFindsRow.laid W := h0
  obtain ⟨a0, s0, e0, -⟩ := laid_sentinel (g := 2) h.tail.tail.tail (by kernel_rfl) (by kernel_rfl) Tryz.underlying149 row177 Tryz.underlying177 Tryz.underlying179 rfl rfl Tryz.underlying9 (by kernel_rfl) (by kernel_rfl)
  obtain ⟨a1, s1, e1, -⟩ := laid_sentinel (g := 1) h.tail.tail.tail.tail (by kernel_rfl) (by kernel_rfl) Tryz.underlying149 row177 Tryz.underlying177 Tryz.underlying179 rfl rfl Tryz.underlying9 (by kernel_rfl) (by kernel_rfl)
  have ht : Lib.TabIs Tryz.prog W "internal/strconv.uint64pow10" .u64 Lib.pow10Tab := Lib.tabIs_of_head (g := 0) (by kernel_rfl) (by kernel_rfl) Tryz.underlying167 Tryz.underlying42 (by kernel_rfl) (by kernel_rfl) (h.tail.tail)
  exact ⟨ht, ⟨_, _, e1⟩, ⟨_, _, e0⟩⟩
def args0 : Array Value := #[.slice none 0 0, .slice none 0 0, .int .u8 0]
noncomputable def laidWorld (os : Os) : World :=
  let N := (World.settled Tryz.prog os).heap.size
  let w0 := World.holding Tryz.prog os ⟨#[.cells #[.string ⟨#[118, 97, 108, 117, 101, 32, 111, 117, 116, 32, 111, 102, 32, 114, 97, 110, 103, 101]⟩] 179, .cells #[.string ⟨#[105, 110, 118, 97, 108, 105, 100, 32, 115, 121, 110, 116, 97, 120]⟩] 179], #[], []⟩
  let put (h : Array Obj) (g : Nat) (cs : Array Value) : Array Obj := h.modify g fun
    | .cells _ t frozen => .cells cs t frozen
    | o => o
  let tab (d : DataW Unit) : Array Value := match d with | .agg l => (l.map fun | .lit (.int k z) => Value.int k z | _ => .int .u8 0).toArray | _ => #[]
  let h0 := put (put w0.heap 2 #[.iface 177 (.pointer (some ⟨N, 0, none⟩))]) 1 #[.iface 177 (.pointer (some ⟨N + 1, 0, none⟩))]
  let h1 := put h0 0 (tab Rows.laid_internal_strconv_uint64pow10)
  let h2 := put h1 3 (tab Rows.laid_math_bits_deBruijn32tab)
  let h3 := put h2 4 (tab Rows.laid_math_bits_deBruijn64tab)
  { w0 with heap := h3 }
theorem laid_met (os : Os) : laidMet Tryz.prog Rows.historyFindsRow.laid ((laidWorld os).forCall (fun _ _ => 0) ⟨#[], args0, []⟩).memory :=
  laidMet_of_run' 8 (by kernel_rfl) (by kernel_rfl)
theorem reads (os : Os) {H : Type} (enc : TypeId × Value → H) : ∃ places, DataW.whole enc Tryz.prog ((laidWorld os).forCall (fun _ _ => 0) ⟨#[], args0, []⟩).memory Tryz.f5.params.toList Rows.historyFindsSpec.vars false args0.toList 8 = some ([.nil, .nil, .lit (.int .u8 0)], [], places) :=
  ⟨[], by kernel_rfl⟩
set_option maxRecDepth 100000 in
theorem contract (H : Type) (enc : TypeId × Value → H) (W : World) (base : Nat) (args : Array Value) (ds gs : List (DataW H)) (before : List MemPlace)
    (hval : ∀ (j : Nat) t v, Tryz.f5.params[j]? = some t → args[j]? = some v → Value.okWide Tryz.prog W .any base t v)
    (hW : DataW.Whole enc Tryz.prog Tryz.f5.params.toList Rows.historyFindsSpec.vars false W args.toList ds gs before)
    (hsz : (DataW.weightsEach Tryz.prog (Tryz.f5.params.toList ++ []) (ds ++ gs)).all (· ≤ reachBytes) = true) (hL : laidMetH Tryz.prog Rows.historyFindsRow.laid W) :
    Calls Tryz.prog 5 args W fun e W' => ∃ v, e = .returned v ∧ Rows.historyFindsSpec.post enc Tryz.prog Tryz.f5 false true false false W args v W' := by
  have hW' := hW
  obtain ⟨p, q, hA0, hV, rfl, hfz, hnd⟩ := hW
  have hA : DataW.TrodAll enc Tryz.prog W 0 (fun _ => true) true Tryz.f5.params.toList args.toList ds p := hA0
  rw [Tryz.params5] at hA hval hsz
  obtain ⟨v0, vs0, d0, ds0, p0, q0, hargs, rfl, rfl, h0, r0⟩ := trodAll_cons hA
  obtain ⟨v1, vs1, d1, ds1, p1, q1, rfl, rfl, rfl, h1, r1⟩ := trodAll_cons r0
  obtain ⟨v2, vs2, d2, ds2, p2, q2, rfl, rfl, rfl, h2, r2⟩ := trodAll_cons r1
  obtain ⟨rfl, rfl, rfl⟩ := trodAll_nil r2
  obtain rfl : args = #[v0, v1, v2] := by cases args; simp_all
  obtain ⟨rfl, rfl⟩ := trodVars_none hV
  have k0 := h0
  have lt0 : ∀ x ∈ p0, x.block < W.heap.size := by obtain ⟨m, hm⟩ := k0; exact DataW.trod_lt m _ _ _ hm
  obtain ⟨ad0, len0, c0, rfl⟩ := okWide_slice Tryz.underlying41 (hval 0 41 v0 rfl rfl)
  obtain ⟨cap0, mx0, nn0, wl0, cell0, hr0, hf0⟩ := open_flat_w (m := 8) (ks := AskV.kinds) Tryz.underlying41 (by kernel_rfl) (by kernel_rfl) (by decide) k0
  have by0 : Tryz.prog.bytesOf 46 = 96 := by kernel_rfl
  have ln0 : len0 * 96 ≤ 140737488351232 := by
    rcases wl0 with h | ⟨q, hq1, hq2⟩
    · omega
    · have h2 := sized_mem hsz (j := 0) rfl rfl hq1
      rw [by0] at hq2; omega
  obtain ⟨l0, hl0, ok0, rw0⟩ := list_of_cells dAsk (f := AskV.cells) AskV.OK hr0 (fun k hk => (AskV.of (hf0 k hk).1 (fun s hs => sized_mem hsz (j := 0) rfl rfl ((hf0 k hk).2 s hs))))
  subst hl0
  have k1 := h1
  have lt1 : ∀ x ∈ p1, x.block < W.heap.size := by obtain ⟨m, hm⟩ := k1; exact DataW.trod_lt m _ _ _ hm
  obtain ⟨ad1, len1, c1, rfl⟩ := okWide_slice Tryz.underlying22 (hval 1 22 v1 rfl rfl)
  obtain ⟨cap1, mx1, nn1, wl1, cell1, hr1, hf1⟩ := open_flat_w (m := 8) (ks := CallV.kinds) Tryz.underlying22 (by kernel_rfl) (by kernel_rfl) (by decide) k1
  have by1 : Tryz.prog.bytesOf 53 = 144 := by kernel_rfl
  have ln1 : len1 * 144 ≤ 140737488351232 := by
    rcases wl1 with h | ⟨q, hq1, hq2⟩
    · omega
    · have h2 := sized_mem hsz (j := 1) rfl rfl hq1
      rw [by1] at hq2; omega
  obtain ⟨l1, hl1, ok1, rw1⟩ := list_of_cells dCall (f := CallV.cells) CallV.OK hr1 (fun k hk => (CallV.of (hf1 k hk).1 (fun s hs => sized_mem hsz (j := 1) rfl rfl ((hf1 k hk).2 s hs))))
  subst hl1
  have k2 := h2
  have lt2 : ∀ x ∈ p2, x.block < W.heap.size := by obtain ⟨m, hm⟩ := k2; exact DataW.trod_lt m _ _ _ hm
  obtain ⟨x2, rfl, -, -, w2⟩ := open_int Tryz.underlying5 (hval 2 5 v2 rfl rfl) h2
  have ok2 := wf_u8 w2
  clear hA0
  refine (Calls.law (hfinds_walk W (laidW hL) ad0 c0 l0 ad1 c1 l1 x2 ok0 ok1 ok2 (by omega) (by omega) rw0 rw1)).mono fun e W' ⟨he, bel⟩ => ?_
  subst he
  exact ⟨_, rfl, _, _, _, [], _, [], hW', trodAll_mk1 (shut_bool Tryz.underlying4 _), (trodAll_cons_mk (Below.trod laidOut (by kernel_rfl) (of_decide_eq_true (by kernel_rfl)) k0 bel lt0) (trodAll_cons_mk (Below.trod laidOut (by kernel_rfl) (of_decide_eq_true (by kernel_rfl)) k1 bel lt1) (trodAll_cons_mk (Below.trod laidOut (by kernel_rfl) (of_decide_eq_true (by kernel_rfl)) k2 bel lt2) (trodAll_mk0)))), rfl, bel.frame _, fun h => by cases h⟩
set_option maxRecDepth 100000 in
theorem lifted (os : Os) (started : os.Started) (H : Type) (enc : TypeId × Value → H) (F : Stop.Interp) :
    ReturnsInHanded {} Tryz.checked os 5 .any ((OpenSpec.ofChange Rows.historyFindsSpec).preRow enc Tryz.prog Tryz.f5 Rows.historyFindsRow.domain false Rows.historyFindsRow.laid) (((OpenSpec.ofChange Rows.historyFindsSpec).at F).post enc Tryz.prog Tryz.f5 false true false false) := by
  obtain ⟨places, hx⟩ := reads os enc
  refine returnsInHanded_of_row (C := Tryz.checked) (s := OpenSpec.ofChange Rows.historyFindsSpec) own started (by kernel_rfl) Tryz.func5
    (witness_row_at (enc := enc) (C := Tryz.checked) false (laidWorld os) args0 rfl (by kernel_rfl) (by kernel_rfl) (by kernel_rfl)
      (OpenSpec.preRow_of_cond 8 hx (by kernel_rfl) (fun k hk => by cases hk) (by kernel_rfl) (laid_met os))) ?_
  intro W base args ds gs before hval hW _ _ hsz hL _ _
  exact contract H enc W base args ds gs before hval hW hsz hL
theorem goes_none {P : Program} (h : P.funcs.toList.any Func.goes = false) (f : FuncId) : P.goes f = false := by
  have h' : P.funcs.any Func.goes = false := by rw [← Array.any_toList]; exact h
  have hc : ((P.closure f).any fun g => (P.funcs[g]?).any Func.goes) = false := by
    rw [Bool.eq_false_iff]
    intro ht
    obtain ⟨g, -, hg⟩ := List.any_eq_true.1 ht
    cases he : P.funcs[g]? with
    | none => rw [he] at hg; cases hg
    | some fn =>
      rw [he] at hg
      have hm : fn ∈ P.funcs.toList := by simpa using Array.mem_of_getElem? he
      have : P.funcs.toList.any Func.goes = true := List.any_eq_true.2 ⟨fn, hm, hg⟩
      rw [h] at this
      cases this
  unfold Program.goes
  rw [hc, h', Bool.and_false, Bool.or_false]
theorem goesBy_none {P : Program} {c : OpenClaim} (h : P.funcs.toList.any Func.goes = false) (hs : c.start = .entering) : false = c.goesBy P := by
  unfold OpenClaim.goesBy Program.goesAt Program.goesFrom
  rw [hs, Bool.or_false]
  cases he : P.funcNamed c.func with
  | none => rfl
  | some f => exact (goes_none h f).symm
theorem q1 : laidOutB Tryz.pinned.checked.prog = true := by kernel_rfl
theorem q2 : mapsRowed Tryz.pinned.checked.prog = true := by kernel_rfl
theorem q3 : (Rows.historyFindsRow.inPlace == Tryz.pinned.checked.prog.inPlace 5) = true := by kernel_rfl
theorem q4 : (Rows.historyFindsRow.unfollowed == Tryz.pinned.checked.prog.unfollowed 5) = true := by kernel_rfl
theorem q5 : (Rows.historyFindsRow.recurses == Tryz.pinned.checked.prog.recurses 5) = true := by kernel_rfl
theorem q6 : (Rows.historyFindsRow.named == Tryz.pinned.checked.prog.varsNamed 5) = true := by kernel_rfl
theorem q7 : (Rows.historyFindsRow.plainKeys == Tryz.pinned.checked.prog.plainKeys) = true := by kernel_rfl
theorem q8 : Tryz.pinned.checked.prog.mayEnter = true := by kernel_rfl
theorem q9 : (Rows.historyFindsRow.lifted == Tryz.pinned.checked.prog.liftsFinal) = true := by kernel_rfl
theorem q10 : (Tryz.pinned.checked.prog.make == some Rows.historyFindsRow.make) = true := by kernel_rfl
theorem q11 : Tryz.pinned.checked.prog.stopsHeard = true := by kernel_rfl
theorem facts : joinedFacts Tryz.pinned.checked.prog 5 Tryz.f5 (OpenSpec.ofChange Rows.historyFindsSpec).bare Rows.historyFindsRow = true := by
  unfold joinedFacts
  simp only [Bool.and_eq_true]
  repeat' apply And.intro
  all_goals first
    | with_reducible exact q1
    | with_reducible exact q2
    | with_reducible exact q3
    | with_reducible exact q4
    | with_reducible exact q5
    | with_reducible exact q6
    | with_reducible exact q7
    | with_reducible exact q8
    | with_reducible exact q9
    | with_reducible exact q10
    | with_reducible exact q11
    | kernel_rfl
theorem named_ : Tryz.pinned.checked.prog.funcNamed Rows.historyFindsRow.func = some 5 := by kernel_rfl
theorem inst_ : Tryz.f5.isInstance Tryz.pinned.checked.prog Rows.historyFindsRow.origin Rows.historyFindsRow.targs := of_decide_eq_true (by kernel_rfl)
theorem wrap_ : Tryz.f5.isWrapper Tryz.pinned.checked.prog Rows.historyFindsRow.wrapper Rows.historyFindsRow.mainSum := by unfold Func.isWrapper; first | (rw [if_pos (by decide +kernel)]; kernel_rfl) | (rw [if_neg (by decide +kernel)]; exact ⟨rfl, rfl⟩)
theorem said : Rows.HistoryFindsSaid :=
  OpenClaim.holds_of_cond 5 Tryz.f5 rfl rfl rfl rfl rfl rfl rfl ⟨rfl, rfl, rfl, rfl, rfl⟩ rfl rfl rfl rfl rfl named_ Tryz.func5 facts
    inst_ wrap_
    (fun os started H enc _ F => by rw [OpenClaim.pre_eq_preRow]; exact lifted os started H enc F)
theorem plain (f : FuncId) (fn : Func) (hf : Tryz.pinned.checked.prog.funcNamed "ratchet/ratchetlaw31.HistoryFinds" = some f) (hfn : Tryz.pinned.checked.prog.funcs[f]? = some fn) :
    true = Tryz.pinned.checked.prog.looks [] ∧ ∀ (j : Nat) t, fn.params[j]? = some t → Tryz.pinned.checked.prog.wantsStandIn t = false := by
  obtain rfl : f = 5 := Option.some.inj ((show Tryz.prog.funcNamed "ratchet/ratchetlaw31.HistoryFinds" = some 5 by kernel_rfl).symm.trans hf) |>.symm
  obtain rfl : fn = Tryz.f5 := (Option.some.inj (Tryz.func5.symm.trans hfn)).symm
  refine ⟨by kernel_rfl, fun j t ht => ?_⟩
  rw [Tryz.params5] at ht
  have hm := Array.mem_of_getElem? ht
  simp only [List.mem_toArray, List.mem_cons, List.not_mem_nil, or_false] at hm
  rcases hm with rfl | rfl | rfl
  · exact (show Tryz.prog.wantsStandIn 41 = false by kernel_rfl)
  · exact (show Tryz.prog.wantsStandIn 22 = false by kernel_rfl)
  · exact (show Tryz.prog.wantsStandIn 5 = false by kernel_rfl)
theorem proved : Rows.HistoryFindsCardSaid :=
  Claim7.holds_tied_plain_at .later [] _ _ _ _ said (fun _ h => by cases h) (by kernel_rfl) (fun _ h => by cases h) historyFinds_row_tie rfl ⟨rfl, rfl⟩ (by kernel_rfl) rfl plain (goesBy_none (by kernel_rfl) rfl)
end Go.Proofs.YtbmmknchcdhefaaGreatDoor.historyFinds
