/-
  RunStays returns true for every input: the row, and its tied card. Conditions: none beside the row's own list of laid variables.
-/
import Derived.Test.YtkiaagddmlddpaaGreatDoorRows
import Derived.Test.YtkiaagddmlddpaaGreatDoorCards
import Derived.Test.YtkiaagddmlddpaaGreatDoorTie
import Derived.Test.YtkiaagddmlddpaaGreatDoorRunY
import Derived.WalkKit
import Derived.ProofKit
import Derived.OpenShut
import Derived.Deep.DeepHandedRow
import Derived.Lib.LaidTab
import Derived.Stop.LaidErr
namespace Go.Proofs.YtkiaagddmlddpaaGreatDoor.runStays
open Go.ChangeShapes Go.WideShapes Go.ChangeAt Go.RowKit Go.Sx
open Go.ChangeMaps (open_string shut_string)
set_option linter.unusedVariables false
set_option linter.unusedSimpArgs false
theorem own : ownKnob Tryz.prog.godebug = none := by kernel_rfl
theorem laidOut : laidOutB Tryz.prog = true := by kernel_rfl
theorem star : "*" ++ "errors.errorString" = "*errors.errorString" := by decide
theorem row187 (u : TypeId) (h : Tryz.prog.typeName? 3 u = some "*errors.errorString") : u = 187 :=
  typeName_ptr_named (nm := "errors.errorString") (by rw [star]; kernel_rfl) (by kernel_rfl) (by decide) u (by rw [star]; exact h)

theorem laidW {W : World} (h0 : laidMetH Tryz.prog Rows.runStaysRow.laid W) : Laid W := by
  have h : laidMet Tryz.prog Rows.runStaysRow.laid W := h0
  obtain ⟨a0, s0, e0, -⟩ := laid_sentinel (g := 4) h.tail.tail.tail.tail (by kernel_rfl) (by kernel_rfl) Tryz.underlying161 row187 Tryz.underlying187 Tryz.underlying189 rfl rfl Tryz.underlying9 (by kernel_rfl) (by kernel_rfl)
  obtain ⟨a1, s1, e1, -⟩ := laid_sentinel (g := 3) h.tail.tail.tail.tail.tail (by kernel_rfl) (by kernel_rfl) Tryz.underlying161 row187 Tryz.underlying187 Tryz.underlying189 rfl rfl Tryz.underlying9 (by kernel_rfl) (by kernel_rfl)
  have ht : Lib.TabIs Tryz.prog W "internal/strconv.uint64pow10" .u64 Lib.pow10Tab := Lib.tabIs_of_head (g := 2) (by kernel_rfl) (by kernel_rfl) Tryz.underlying180 Tryz.underlying37 (by kernel_rfl) (by kernel_rfl) (h.tail.tail)
  exact ⟨ht, ⟨_, _, e1⟩, ⟨_, _, e0⟩⟩
theorem laidG {W : World} (h0 : laidMetH Tryz.prog Rows.runStaysRow.laid W) : TabR W := by
  have h : laidMet Tryz.prog Rows.runStaysRow.laid W := h0
  have ht : Lib.TabIs Tryz.prog W "ratchet/sha.table" .u32 shaT := Lib.tabIs_of_head (g := 0) (t := 135) (e := 111) (n := 64) (by kernel_rfl) (by kernel_rfl) (by kernel_rfl) (by kernel_rfl) (by kernel_rfl) (by kernel_rfl) (h.tail.tail.tail)
  exact fun _ => ⟨0, 0, rfl, fun k hk j hj => by
    have hj0 : j = 0 := by omega
    subst hj0
    have hk2 : k < shaT.length := by rw [shaT_length]; exact hk
    rw [show 0 + k * 1 + 0 = k by omega, ht.cell (by kernel_rfl) k hk2]
    rfl⟩
def args0 : Array Value := #[.slice none 0 0, .int .u8 0]
noncomputable def laidWorld (os : Os) : World :=
  let N := (World.settled Tryz.prog os).heap.size
  let w0 := World.holding Tryz.prog os ⟨#[.cells #[.string ⟨#[118, 97, 108, 117, 101, 32, 111, 117, 116, 32, 111, 102, 32, 114, 97, 110, 103, 101]⟩] 189, .cells #[.string ⟨#[105, 110, 118, 97, 108, 105, 100, 32, 115, 121, 110, 116, 97, 120]⟩] 189], #[], []⟩
  let put (h : Array Obj) (g : Nat) (cs : Array Value) : Array Obj := h.modify g fun
    | .cells _ t frozen => .cells cs t frozen
    | o => o
  let tab (d : DataW Unit) : Array Value := match d with | .agg l => (l.map fun | .lit (.int k z) => Value.int k z | _ => .int .u8 0).toArray | _ => #[]
  let h0 := put (put w0.heap 4 #[.iface 187 (.pointer (some ⟨N, 0, none⟩))]) 3 #[.iface 187 (.pointer (some ⟨N + 1, 0, none⟩))]
  let h1 := put h0 2 (tab Rows.laid_internal_strconv_uint64pow10)
  let h2 := put h1 5 (tab Rows.laid_math_bits_deBruijn32tab)
  let h3 := put h2 6 (tab Rows.laid_math_bits_deBruijn64tab)
  let h4 := put h3 0 (tab Rows.laid_ratchet_sha_table)
  { w0 with heap := h4 }
theorem laid_met (os : Os) : laidMet Tryz.prog Rows.runStaysRow.laid ((laidWorld os).forCall (fun _ _ => 0) ⟨#[], args0, []⟩).memory :=
  laidMet_of_run' 8 (by kernel_rfl) (by kernel_rfl)
theorem reads (os : Os) {H : Type} (enc : TypeId × Value → H) : ∃ places, DataW.whole enc Tryz.prog ((laidWorld os).forCall (fun _ _ => 0) ⟨#[], args0, []⟩).memory Tryz.f4.params.toList Rows.runStaysSpec.vars false args0.toList 8 = some ([.nil, .lit (.int .u8 0)], [], places) :=
  ⟨[], by kernel_rfl⟩
set_option maxRecDepth 100000 in
theorem contract (H : Type) (enc : TypeId × Value → H) (W : World) (base : Nat) (args : Array Value) (ds gs : List (DataW H)) (before : List MemPlace)
    (hval : ∀ (j : Nat) t v, Tryz.f4.params[j]? = some t → args[j]? = some v → Value.okWide Tryz.prog W .any base t v)
    (hW : DataW.Whole enc Tryz.prog Tryz.f4.params.toList Rows.runStaysSpec.vars false W args.toList ds gs before)
    (hsz : (DataW.weightsEach Tryz.prog (Tryz.f4.params.toList ++ []) (ds ++ gs)).all (· ≤ reachBytes) = true) (hL : laidMetH Tryz.prog Rows.runStaysRow.laid W) :
    Calls Tryz.prog 4 args W fun e W' => ∃ v, e = .returned v ∧ Rows.runStaysSpec.post enc Tryz.prog Tryz.f4 false true false false W args v W' := by
  have hW' := hW
  obtain ⟨p, q, hA0, hV, rfl, hfz, hnd⟩ := hW
  have hA : DataW.TrodAll enc Tryz.prog W 0 (fun _ => true) true Tryz.f4.params.toList args.toList ds p := hA0
  rw [Tryz.params4] at hA hval hsz
  obtain ⟨v0, vs0, d0, ds0, p0, q0, hargs, rfl, rfl, h0, r0⟩ := trodAll_cons hA
  obtain ⟨v1, vs1, d1, ds1, p1, q1, rfl, rfl, rfl, h1, r1⟩ := trodAll_cons r0
  obtain ⟨rfl, rfl, rfl⟩ := trodAll_nil r1
  obtain rfl : args = #[v0, v1] := by cases args; simp_all
  obtain ⟨rfl, rfl⟩ := trodVars_none hV
  have k0 := h0
  have lt0 : ∀ x ∈ p0, x.block < W.heap.size := by obtain ⟨m, hm⟩ := k0; exact DataW.trod_lt m _ _ _ hm
  obtain ⟨ad0, len0, c0, rfl⟩ := okWide_slice Tryz.underlying22 (hval 0 22 v0 rfl rfl)
  obtain ⟨cap0, mx0, nn0, wl0, cell0, hr0, hf0⟩ := open_flat_w (m := 8) (ks := ReqV.kinds) Tryz.underlying22 (by kernel_rfl) (by kernel_rfl) (by decide) k0
  have by0 : Tryz.prog.bytesOf 46 = 128 := by kernel_rfl
  have ln0 : len0 * 128 ≤ 140737488351232 := by
    rcases wl0 with h | ⟨q, hq1, hq2⟩
    · omega
    · have h2 := sized_mem hsz (j := 0) rfl rfl hq1
      rw [by0] at hq2; omega
  obtain ⟨l0, hl0, ok0, rw0⟩ := list_of_cells dReq (f := ReqV.cells) ReqV.OK hr0 (fun k hk => (ReqV.of (hf0 k hk).1 (fun s hs => sized_mem hsz (j := 0) rfl rfl ((hf0 k hk).2 s hs))))
  subst hl0
  have k1 := h1
  have lt1 : ∀ x ∈ p1, x.block < W.heap.size := by obtain ⟨m, hm⟩ := k1; exact DataW.trod_lt m _ _ _ hm
  obtain ⟨x1, rfl, -, -, w1⟩ := open_int Tryz.underlying5 (hval 1 5 v1 rfl rfl) h1
  have ok1 := wf_u8 w1
  clear hA0
  refine (Calls.law (rstays_walk W (laidW hL) ad0 c0 l0 ok0 (by omega) cap0 nn0 rw0 x1 ok1 (laidG hL))).mono fun e W' ⟨he, bel⟩ => ?_
  subst he
  exact ⟨_, rfl, _, _, _, [], _, [], hW', trodAll_mk1 (shut_bool Tryz.underlying4 _), (trodAll_cons_mk (Below.trod laidOut (by kernel_rfl) (of_decide_eq_true (by kernel_rfl)) k0 bel lt0) (trodAll_cons_mk (Below.trod laidOut (by kernel_rfl) (of_decide_eq_true (by kernel_rfl)) k1 bel lt1) (trodAll_mk0))), rfl, bel.frame _, fun h => by cases h⟩

set_option maxRecDepth 100000 in
theorem lifted (os : Os) (started : os.Started) (H : Type) (enc : TypeId × Value → H) (F : Stop.Interp) :
    ReturnsInHanded {} Tryz.checked os 4 .any ((OpenSpec.ofChange Rows.runStaysSpec).preRow enc Tryz.prog Tryz.f4 Rows.runStaysRow.domain false Rows.runStaysRow.laid) (((OpenSpec.ofChange Rows.runStaysSpec).at F).post enc Tryz.prog Tryz.f4 false true false false) := by
  obtain ⟨places, hx⟩ := reads os enc
  refine returnsInHanded_of_row (C := Tryz.checked) (s := OpenSpec.ofChange Rows.runStaysSpec) own started (by kernel_rfl) Tryz.func4
    (witness_row_at (enc := enc) (C := Tryz.checked) false (laidWorld os) args0 rfl (by kernel_rfl) (by kernel_rfl) (by kernel_rfl)
      (OpenSpec.preRow_of_cond 8 hx (by kernel_rfl) (fun k hk => by cases hk) (by kernel_rfl) (laid_met os))) ?_
  intro W base args ds gs before hval hW _ _ hsz hL _ _
  exact contract H enc W base args ds gs before hval hW hsz hL

/-- No goroutine is started anywhere: cheaper than what the call can come to. -/
theorem goes_none {P : Program} (h : P.funcs.toList.any Func.goes = false) (f : FuncId) : P.goes f = false := by
  have h' : P.funcs.any Func.goes = false := by rw [← Array.any_toList]; exact h
  have hc : ((P.closure f).any fun g => (P.funcs[g]?).any Func.goes) = false := by
    rw [Bool.eq_false_iff]
    intro ht
    obtain ⟨g, -, hg⟩ := List.any_eq_true.1 ht
    cases he : P.funcs[g]? with
    | none => rw [he] at hg; cases hg
    | some fn =>
      rw [he] at hg
      have hm : fn ∈ P.funcs.toList := by simpa using Array.mem_of_getElem? he
      have : P.funcs.toList.any Func.goes = true := List.any_eq_true.2 ⟨fn, hm, hg⟩
      rw [h] at this
      cases this
  unfold Program.goes
  rw [hc, h', Bool.and_false, Bool.or_false]
theorem goesBy_none {P : Program} {c : OpenClaim} (h : P.funcs.toList.any Func.goes = false) (hs : c.start = .entering) : false = c.goesBy P := by
  unfold OpenClaim.goesBy Program.goesAt Program.goesFrom
  rw [hs, Bool.or_false]
  cases he : P.funcNamed c.func with
  | none => rfl
  | some f => exact (goes_none h f).symm

theorem q1 : laidOutB Tryz.pinned.checked.prog = true := by kernel_rfl
theorem q2 : mapsRowed Tryz.pinned.checked.prog = true := by kernel_rfl
theorem q3 : (Rows.runStaysRow.inPlace == Tryz.pinned.checked.prog.inPlace 4) = true := by kernel_rfl
theorem q4 : (Rows.runStaysRow.unfollowed == Tryz.pinned.checked.prog.unfollowed 4) = true := by kernel_rfl
theorem q5 : (Rows.runStaysRow.recurses == Tryz.pinned.checked.prog.recurses 4) = true := by kernel_rfl
theorem q6 : (Rows.runStaysRow.named == Tryz.pinned.checked.prog.varsNamed 4) = true := by kernel_rfl
theorem q7 : (Rows.runStaysRow.plainKeys == Tryz.pinned.checked.prog.plainKeys) = true := by kernel_rfl
theorem q8 : Tryz.pinned.checked.prog.mayEnter = true := by kernel_rfl
theorem q9 : (Rows.runStaysRow.lifted == Tryz.pinned.checked.prog.liftsFinal) = true := by kernel_rfl
theorem q10 : (Tryz.pinned.checked.prog.make == some Rows.runStaysRow.make) = true := by kernel_rfl
theorem q11 : Tryz.pinned.checked.prog.stopsHeard = true := by kernel_rfl
theorem facts : joinedFacts Tryz.pinned.checked.prog 4 Tryz.f4 (OpenSpec.ofChange Rows.runStaysSpec).bare Rows.runStaysRow = true := by
  unfold joinedFacts
  simp only [Bool.and_eq_true]
  repeat' apply And.intro
  all_goals first
    | with_reducible exact q1
    | with_reducible exact q2
    | with_reducible exact q3
    | with_reducible exact q4
    | with_reducible exact q5
    | with_reducible exact q6
    | with_reducible exact q7
    | with_reducible exact q8
    | with_reducible exact q9
    | with_reducible exact q10
    | with_reducible exact q11
    | kernel_rfl
theorem named_ : Tryz.pinned.checked.prog.funcNamed Rows.runStaysRow.func = some 4 := by kernel_rfl
theorem inst_ : Tryz.f4.isInstance Tryz.pinned.checked.prog Rows.runStaysRow.origin Rows.runStaysRow.targs := of_decide_eq_true (by kernel_rfl)
theorem wrap_ : Tryz.f4.isWrapper Tryz.pinned.checked.prog Rows.runStaysRow.wrapper Rows.runStaysRow.mainSum := by unfold Func.isWrapper; first | (rw [if_pos (by decide +kernel)]; kernel_rfl) | (rw [if_neg (by decide +kernel)]; exact ⟨rfl, rfl⟩)
theorem said : Rows.RunStaysSaid :=
  OpenClaim.holds_of_cond 4 Tryz.f4 rfl rfl rfl rfl rfl rfl rfl ⟨rfl, rfl, rfl, rfl, rfl⟩ rfl rfl rfl rfl rfl named_ Tryz.func4 facts
    inst_ wrap_
    (fun os started H enc _ F => by rw [OpenClaim.pre_eq_preRow]; exact lifted os started H enc F)

theorem plain (f : FuncId) (fn : Func) (hf : Tryz.pinned.checked.prog.funcNamed "ratchet/ratchetlaw17.RunStays" = some f) (hfn : Tryz.pinned.checked.prog.funcs[f]? = some fn) :
    true = Tryz.pinned.checked.prog.looks [] ∧ ∀ (j : Nat) t, fn.params[j]? = some t → Tryz.pinned.checked.prog.wantsStandIn t = false := by
  obtain rfl : f = 4 := Option.some.inj ((show Tryz.prog.funcNamed "ratchet/ratchetlaw17.RunStays" = some 4 by kernel_rfl).symm.trans hf) |>.symm
  obtain rfl : fn = Tryz.f4 := (Option.some.inj (Tryz.func4.symm.trans hfn)).symm
  refine ⟨by kernel_rfl, fun j t ht => ?_⟩
  rw [Tryz.params4] at ht
  have hm := Array.mem_of_getElem? ht
  simp only [List.mem_toArray, List.mem_cons, List.not_mem_nil, or_false] at hm
  rcases hm with rfl | rfl
  · exact (show Tryz.prog.wantsStandIn 22 = false by kernel_rfl)
  · exact (show Tryz.prog.wantsStandIn 5 = false by kernel_rfl)

theorem proved : Rows.RunStaysCardSaid :=
  Claim7.holds_tied_plain_at .later [] _ _ _ _ said (fun _ h => by cases h) (by kernel_rfl) (fun _ h => by cases h) runStays_row_tie rfl ⟨rfl, rfl⟩ (by kernel_rfl) rfl plain (goesBy_none (by kernel_rfl) rfl)
end Go.Proofs.YtkiaagddmlddpaaGreatDoor.runStays
