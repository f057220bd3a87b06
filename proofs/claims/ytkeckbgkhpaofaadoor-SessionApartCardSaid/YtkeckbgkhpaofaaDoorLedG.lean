/-
  The walks of the laws of layer 9.
-/
import Derived.Test.YtkeckbgkhpaofaaDoorProg
import Derived.Test.YtkeckbgkhpaofaaDoorLedF
namespace Go.Proofs.YtkeckbgkhpaofaaDoor
open Go.RowKit Go.Sx
set_option linter.unusedVariables false
set_option linter.unusedSimpArgs false
set_option linter.unnecessarySimpa false
set_option maxRecDepth 100000
theorem Laid.base {W w w0 : World} {L : List Asn} (h : Laid W) (hs : St w0 L w) (i : Nat) (hi : L[i]? = some (Base W)) : Laid w := by
  have hb := hs.at_ i hi
  have key : ∀ (n : String) (g : Nat) (v : Array Value), Tryd.prog.globalNamed n = some g → W.var? Tryd.prog n = some v → w.var? Tryd.prog n = some v := by
    intro n g v hg hv
    unfold World.var? at hv ⊢
    rw [hg] at hv ⊢
    simp only [Option.bind_some] at hv ⊢
    have hlt : g < W.heap.size := by
      cases hx : W.heap[g]? with
      | none => rw [hx] at hv; cases hv
      | some o => exact (Array.getElem?_eq_some_iff.1 hx).1
    rw [hb g hlt]
    exact hv
  obtain ⟨h1, ⟨t2, p2, h2⟩, ⟨t3, p3, h3⟩⟩ := h
  exact ⟨key _ _ _ (by kernel_rfl : _ = some 1) h1, ⟨t2, p2, key _ _ _ (by kernel_rfl : _ = some 2) h2⟩, ⟨t3, p3, key _ _ _ (by kernel_rfl : _ = some 3) h3⟩⟩
theorem nil_walk (W : World) (hLW : Laid W) (o : OpV) (hsm : Small o) : Calls Tryd.prog 4 #[.agg (OpV.cells o)] W (Ret fun rv w' => rv = .bool true ∧ Below W.heap.size W w') := by
  refine enter (args := [.agg (OpV.cells o)]) Tryd.func4 rfl Tryd.ntmps4 (Nat.le_of_ble_eq_true (by kernel_rfl)) ?_
  refine GoC.slots (S' := [(0, .agg (OpV.cells o))]) rfl ?_
  refine GoC.seq ?_
  refine GoC.regT [3, 3] (.ef 0 (.rd 1 .done)) (by kernel_rfl) (by kernel_rfl) ?_
  refine GoR.box rfl rfl (by kernel_rfl) (v := .agg (OpV.cells o)) (by kernel_rfl) (St.start W) (cs := OpV.cells o) (by kernel_rfl) ?_
  intro b1 w2 hs3
  refine ⟨(opn (by kernel_rfl)), ?_⟩
  refine GoR.phaseK [(1, .gen [])] [2, 1] [] [(2, .bool false), (1, .pointer (some ⟨b1, 0, none⟩))] (by kernel_rfl) rfl ak0 ?_
  refine GoR.done (GoQ.thn (GoC.seq (GoC.seq ?_)))
  refine GoC.regT [15, 15, 15, 15] (.rd 0 (.ef 1 (.ef 2 (.rd 3 .done)))) (by kernel_rfl) (by kernel_rfl) ?_
  refine GoR.phaseK [(0, .agg (OpV.cells o))] [4, 2, 1] [(0, [.prop (Array.size (OpV.cells o) = 6), .cells ⟨b1, 0, none⟩ (OpV.cells o)])] [(4, .agg (OpV.cells o)), (2, .bool false), (1, .pointer (some ⟨b1, 0, none⟩))] (by kernel_rfl) rfl (ak (okp (by kernel_rfl) (oka (hs3.cells 0 0 rfl (by kernel_rfl)) ok0)) ak0) ?_
  refine GoR.sliceLit rfl (by kernel_rfl) (t := 47) (e := 24) (n := 1) (ps := [(0, .agg (OpV.cells o))]) (by kernel_rfl) (by kernel_rfl) (ti := Tryd.t24) (z := .agg #[.int .u8 0, .string (⟨#[]⟩ : ByteArray), .string (⟨#[]⟩ : ByteArray), .string (⟨#[]⟩ : ByteArray), .string (⟨#[]⟩ : ByteArray), .int .u64 0]) (by kernel_rfl) (by kernel_rfl) (by decide) (by decide) (cs := #[.int .u8 o.kind, .string o.key, .string o.value, .string o.old, .string o.dest, .int .u64 o.amount]) (by kernel_rfl) hs3 ?_
  intro b4 w5 hs6 hz7
  have hs8 : St W ((Sl (some ⟨b4, 0, none⟩) 1 24 6 OpV.cells ([(o : OpV)])) :: (Cel b1 (OpV.cells o) 24) :: (Base W) :: []) w5 := St.slOf (l := [(o : OpV)]) (f := OpV.cells) hs6 hz7 (opF).size (by simp only [List.length_cons, List.length_nil, maxLen]; omega) (by kernel_rfl)
  refine ⟨(opn (by kernel_rfl)), ?_⟩
  refine GoR.call rfl rfl (by kernel_rfl) (f := 20) (args := #[.slice (some ⟨b4, 0, none⟩) 1 1]) (by kernel_rfl) Tryd.call20 (few_spec ([(o : OpV)]) (fun q hq => by simp only [List.mem_singleton] at hq; subst hq; exact hsm) (by simp only [List.length_cons, List.length_nil]; omega) (fun w h => h.rows 0 rfl opF.size _) hs8) ?_
  rintro v10 w11 ⟨rfl, hs9⟩
  refine ⟨(opn (by kernel_rfl)), ?_⟩
  refine GoR.phaseK [(3, .gen [])] [7, 2, 1] [] [(7, .bool (!(few ([(o : OpV)])))), (2, .bool false), (1, .pointer (some ⟨b1, 0, none⟩))] (by kernel_rfl) rfl ak0 ?_
  refine GoR.done (GoQ.thn ?_)
  refine GoC.cond (t := !(few ([(o : OpV)]))) (by kernel_rfl) (fun h12 => ?_) (fun h12 => ?_)
  · have h12n : (few ([(o : OpV)])) = false := notT h12
    refine GoC.seq ?_
    refine GoC.regT [3, 3] (.ef 0 (.rd 1 .done)) (by kernel_rfl) (by kernel_rfl) ?_
    refine GoR.call rfl rfl (by kernel_rfl) (f := 21) (args := #[]) (by kernel_rfl) Tryd.call21 (works_spec (fun w h => hLW.base h 2 rfl) hs9) ?_
    rintro v14 w15 ⟨rfl, hs13⟩
    refine ⟨(opn (by kernel_rfl)), ?_⟩
    refine GoR.phaseK [(1, .gen [])] [2, 1] [] [(2, .bool true), (1, .pointer (some ⟨b1, 0, none⟩))] (by kernel_rfl) rfl ak0 ?_
    refine GoR.done (GoQ.thn (GoC.ret (GoQ.skipCR ?_)))
    refine GoQ.done (.inl rfl) (v := .bool true) (fun a hf => results1 rfl (by kernel_rfl) a hf) ?_
    exact ⟨rfl, hs13.below 2 rfl⟩
  · have h12n : (few ([(o : OpV)])) = true := notF h12
    refine GoC.skip (GoQ.thn (GoC.seq ?_))
    refine GoC.regT [1] (.rd 0 .done) (by kernel_rfl) (by kernel_rfl) ?_
    refine GoR.phaseK [(0, .gen [])] [3, 2, 1] [] [(3, .pointer none), (2, .bool false), (1, .pointer (some ⟨b1, 0, none⟩))] (by kernel_rfl) rfl ak0 ?_
    refine GoR.done (GoQ.thn (GoC.seq ?_))
    refine GoC.regT [32767, 32767, 32767, 32767, 32767, 32767, 32767, 32767, 32767, 32767, 32767, 32767, 32767, 32767, 32767] (.rd 0 (.rd 1 (.ef 2 (.rd 3 (.rd 4 (.rd 5 (.rd 6 (.ef 7 (.rd 8 (.rd 9 (.rd 10 (.rd 11 (.ef 12 (.rd 13 (.rd 14 .done))))))))))))))) (by kernel_rfl) (by kernel_rfl) ?_
    refine GoR.phaseK [(0, .gen []), (1, .agg (OpV.cells o))] [10, 9, 3, 2] [(1, [.prop (Array.size (OpV.cells o) = 6), .cells ⟨b1, 0, none⟩ (OpV.cells o)])] [(10, .agg (OpV.cells o)), (9, .pointer none), (3, .pointer none), (2, .bool false)] (by kernel_rfl) rfl (ak (okp (by kernel_rfl) (oka (hs9.cells 1 0 rfl (by kernel_rfl)) ok0)) ak0) ?_
    refine GoR.call rfl rfl (by kernel_rfl) (f := 22) (args := #[.pointer none, .agg (OpV.cells o)]) (by kernel_rfl) Tryd.call22 (ldo_nil o hs9) ?_
    rintro v17 w18 ⟨rfl, hs16⟩
    refine ⟨(opn (by kernel_rfl)), ?_⟩
    refine GoR.phaseK [(3, .gen [])] [12, 11, 3, 2] [] [(12, .agg #[.int .i64 2, .string (⟨#[]⟩ : ByteArray)]), (11, .agg (RepV.cells (⟨2, ⟨#[]⟩⟩ : RepV))), (3, .pointer none), (2, .bool false)] (by kernel_rfl) rfl ak0 ?_
    refine GoR.eqAgg rfl (by kernel_rfl) (b := true) (t := 34) (xs := RepV.cells (⟨2, ⟨#[]⟩⟩ : RepV)) (ys := RepV.cells (⟨2, (⟨#[]⟩ : ByteArray)⟩ : RepV)) (m := 2) (by kernel_rfl) (by kernel_rfl) (by decide) (by kernel_rfl) (r := decide ((⟨2, ⟨#[]⟩⟩ : RepV) = (⟨2, (⟨#[]⟩ : ByteArray)⟩ : RepV))) (aggEq  (repEq (⟨2, ⟨#[]⟩⟩ : RepV) (⟨2, (⟨#[]⟩ : ByteArray)⟩ : RepV))) ?_
    refine GoR.phaseK [(5, .gen [])] [14, 3, 2] [] [(14, .bool (decide ((⟨2, ⟨#[]⟩⟩ : RepV) = (⟨2, (⟨#[]⟩ : ByteArray)⟩ : RepV)))), (3, .pointer none), (2, .bool false)] (by kernel_rfl) rfl ak0 ?_
    rcases Bool.eq_false_or_eq_true (decide ((⟨2, ⟨#[]⟩⟩ : RepV) = (⟨2, (⟨#[]⟩ : ByteArray)⟩ : RepV))) with h19 | h19
    · refine GoR.setB 14 true (by decide) (by kernel_rfl) h19 ?_
      have h19' : (⟨2, ⟨#[]⟩⟩ : RepV) = (⟨2, (⟨#[]⟩ : ByteArray)⟩ : RepV) := of_decide_eq_true h19
      refine GoR.phaseK [(6, .gen [])] [15, 14, 2] [] [(15, .pointer none), (14, .bool true), (2, .bool false)] (by kernel_rfl) rfl ak0 ?_
      refine GoR.call rfl rfl (by kernel_rfl) (f := 23) (args := #[.pointer none]) (by kernel_rfl) Tryd.call23 (list_nil hs16) ?_
      rintro v21 w22 ⟨rfl, hs20⟩
      refine ⟨(opn (by kernel_rfl)), ?_⟩
      refine GoR.phaseK [(8, .gen []), (9, .gen []), (10, .gen []), (11, .gen [])] [20, 2] [] [(20, .bool true), (2, .bool false)] (by kernel_rfl) rfl ak0 ?_
      refine GoR.call rfl rfl (by kernel_rfl) (f := 21) (args := #[]) (by kernel_rfl) Tryd.call21 (works_spec (fun w h => hLW.base h 2 rfl) hs20) ?_
      rintro v24 w25 ⟨rfl, hs23⟩
      refine ⟨(opn (by kernel_rfl)), ?_⟩
      refine GoR.phaseK [(13, .gen []), (14, .gen [])] [2] [] [(2, .bool true)] (by kernel_rfl) rfl ak0 ?_
      refine GoR.done (GoQ.thn (GoC.ret ?_))
      refine GoQ.done (.inl rfl) (v := .bool true) (fun a hf => results1 rfl (by kernel_rfl) a hf) ?_
      exact ⟨rfl, hs23.below 2 rfl⟩
    · refine GoR.setB 14 false (by decide) (by kernel_rfl) h19 ?_
      have h19' : ¬ ((⟨2, ⟨#[]⟩⟩ : RepV) = (⟨2, (⟨#[]⟩ : ByteArray)⟩ : RepV)) := of_decide_eq_false h19
      exact absurd h19 (by decide)
end Go.Proofs.YtkeckbgkhpaofaaDoor
