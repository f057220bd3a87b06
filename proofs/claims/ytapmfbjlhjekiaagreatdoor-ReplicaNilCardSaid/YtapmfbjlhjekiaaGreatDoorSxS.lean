/-
  Sx, part S: slices.Grow at bytes. Conditions: none beside each theorem's own.
-/
import Derived.Test.YtapmfbjlhjekiaaGreatDoorSxT
import Derived.Test.YtapmfbjlhjekiaaGreatDoorProg
namespace Go.Proofs.YtapmfbjlhjekiaaGreatDoor
open Go.RowKit Go.Sx
set_option linter.unusedVariables false
set_option linter.unusedSimpArgs false
set_option maxRecDepth 100000

section
variable {P : Program} {w : World}
def gRep {α : Type} : Nat → List α → List α
  | 0, _ => []
  | n + 1, z => z ++ gRep n z
def gIsIntT : Option TypeDesc → Bool
  | some (.int _) => true
  | _ => false
theorem gRep_length {α : Type} (z : List α) : ∀ n, (gRep n z).length = n * z.length
  | 0 => by simp [gRep]
  | n + 1 => by simp [gRep, gRep_length z n, Nat.add_mul, Nat.add_comm]
theorem gRep_get {α : Type} (z : List α) (hz : 0 < z.length) : ∀ (n i : Nat), i < n * z.length → (gRep n z)[i]? = z[i % z.length]?
  | 0, i, h => by simp at h
  | n + 1, i, h => by
    simp only [gRep]
    by_cases hi : i < z.length
    · rw [List.getElem?_append_left hi, Nat.mod_eq_of_lt hi]
    · rw [List.getElem?_append_right (by omega), gRep_get z hz n (i - z.length) (by rw [Nat.add_mul] at h; omega)]
      congr 1
      exact (Nat.mod_eq_sub_mod (by omega)).symm
/-- The model's own row of zeros. -/
theorem gZeros_eq {zs : Array Value} (n : Nat) (hz : 0 < zs.size) : (Array.range (n * zs.size)).map (fun i => zs[i % zs.size]!) = (gRep n zs.toList).toArray := by
  apply Array.ext_getElem?
  intro i
  by_cases hi : i < n * zs.size
  · have h1 : i % zs.size < zs.size := Nat.mod_lt _ hz
    have := gRep_get zs.toList (by simpa using hz) n i (by simpa using hi)
    simp only [List.getElem?_toArray, this, Array.getElem?_map]
    simp [hi, h1]
  · have h2 : (gRep n zs.toList).length = n * zs.size := by rw [gRep_length]; simp
    rw [Array.getElem?_eq_none (by simp; omega), Array.getElem?_eq_none (by simp [h2]; omega)]
theorem gZeroCells_eq {zs : Array Value} (n : Nat) (hz : 0 < zs.size) : Builtin.zeroCells zs n = (gRep n zs.toList).toArray := gZeros_eq n hz
theorem gRun_newRow (e : TypeId) (cs : Array Value) (w1 : World) : (newRow e cs).run P w1 = .ok ⟨w1.heap.size, 0, none⟩ { w1 with heap := w1.heap.push (.cells cs e) } := rfl
/-- What is appended, as a run (the words of append's own text). -/
theorem gAppendRun {ts : Array TypeId} {t t' e ty : TypeId} {d : TypeDesc} {ie : TypeInfo} {z : Value} {base : Option Addr} {sLen sCap : Nat} {x : Value} {n : Nat} {us : List Value}
    (h0 : ts[0]? = some t) (h1 : ts[1]? = some t') (hu : P.underlying t = some (.slice e)) (hu' : P.underlying t' = some d) (hi : P.info? e = some ie) (hz : ie.zero = some z)
    (hpos : 0 < ie.size) (hzs : z.cells.size = ie.size) (hlen : us.length = n * ie.size) (hbig : (sLen + n) * (ie.bytes + 1) ≤ 1000000000)
    (hx : (gIsIntT (some d) = true ∧ (∃ k, x = .int k (n : Int)) ∧ us = gRep n z.cells.toList) ∨
      (gIsIntT (some d) = false ∧ (∀ w1 : World, (Builtin.lenOf x).run P w1 = .ok n w1) ∧ ∀ w1 : World, w1.heap = w.heap → (Builtin.firstCells ie.size n x).run P w1 = .ok us.toArray w1)) :
    (sLen + n ≤ sCap → (Builtin.append_ ts ty #[.slice base sLen sCap, x]).run P w = ((match base with
      | some ad => storeCells (ad.add (sLen * ie.size)) us
      | none => pure ()).run P w).andThen fun _ w' => .ok (.slice base (sLen + n) sCap) w') ∧
    (sCap < sLen + n → ∀ olds : List Value, olds.length = sLen * ie.size → (∀ w1 : World, w1.heap = w.heap → (Builtin.firstCells ie.size sLen (.slice base sLen sCap)).run P w1 = .ok olds.toArray w1) →
      ∃ cap, sLen + n ≤ cap ∧ cap ≤ 9223372036854775807 ∧ (Builtin.append_ ts ty #[.slice base sLen sCap, x]).run P w = .ok (.slice (some ⟨w.heap.size, 0, none⟩) (sLen + n) cap)
        { w with drawn := w.drawn + 1, heap := w.heap.push (.cells (olds ++ us ++ gRep (cap - (sLen + n)) z.cells.toList).toArray e) }) := by
  have hb1 : sLen + n ≤ 1000000000 := Nat.le_trans (Nat.le_mul_of_pos_right _ (by omega)) hbig
  have hb2 : (sLen + n) * ie.bytes ≤ 1000000000 := Nat.le_trans (Nat.mul_le_mul_left _ (by omega)) hbig
  have hn2 : n * ie.bytes ≤ 1000000000 := Nat.le_trans (Nat.mul_le_mul_right _ (by omega)) hb2
  have ask : ∀ b w, (askRoom b).run P w = .ok () w := by
    intro b w
    unfold askRoom
    split <;> simp [mark, Sem.run]
  have hzc : ∀ k, Builtin.zeroCells z.cells k = (gRep k z.cells.toList).toArray := fun k => gZeroCells_eq k (by omega)
  rcases hx with ⟨hint, ⟨k, rfl⟩, rfl⟩ | ⟨hint, hlo, hfc⟩
  · obtain ⟨k', rfl⟩ : ∃ k', d = .int k' := by
      cases d <;> first | exact ⟨_, rfl⟩ | cases hint
    have w1 : IntKind.i64.wrap (n : Int) = (n : Int) := i64w (by omega) (by omega)
    have t1 : ¬ ((n : Int) < 0) := by omega
    have t2 : ¬ ((n : Int) * (ie.bytes : Int) > 2 ^ 48) := by
      rw [← Int.natCast_mul]; omega
    have hmatch : (TypeDesc.int k' matches .int _) = true := rfl
    have t2' : ¬ (281474976710656 < (n : Int) * (ie.bytes : Int)) := by
      rw [← Int.natCast_mul]; omega
    constructor
    · intro hfit
      by_cases hz0 : n * ie.size = 0
      · have hn0 : n = 0 := by
          rcases Nat.mul_eq_zero.1 hz0 with h | h
          · exact h
          · omega
        simp [Builtin.append_, h0, h1, run_underlying hu, run_underlying hu', sizeOf, typeInfo, hi, asInt, asIntOf, w1, t1, t2', hfit, hz0]
        cases base <;> simp [hn0, gRep, storeCells]
      · simp [Builtin.append_, h0, h1, run_underlying hu, run_underlying hu', sizeOf, typeInfo, zeroValue, hi, hz, asInt, asIntOf, w1, t1, t2', hfit, hz0, hzc]
        cases base <;> simp
    · intro hno olds hol hold
      have hns : ¬ (sLen + n ≤ sCap) := by omega
      have hnc : Builtin.nextslicecap (sLen + n) sCap * ie.bytes ≤ 281474976710656 := growslice_fits hno (by omega)
      have hnc' : ¬ (281474976710656 < Builtin.nextslicecap (sLen + n) sCap * ie.bytes) := by omega
      have hmx : ¬ (9223372036854775807 < (sLen : Int) + (n : Int)) := by omega
      refine ⟨grownCap w (sLen + n) sCap e, grownCap_ge w (sLen + n) sCap e, grownCap_le_maxLen w (sLen + n) sCap e (by simp only [maxLen]; omega), ?_⟩
      by_cases hz0 : n * ie.size = 0
      · have hn0 : n = 0 := by
          rcases Nat.mul_eq_zero.1 hz0 with h | h
          · exact h
          · omega
        simp [Builtin.append_, h0, h1, run_underlying hu, run_underlying hu', sizeOf, typeInfo, zeroValue, hi, hz, asInt, asIntOf, w1, t1, t2', hns, hz0, hzc, hnc', hmx, Question.forced, ask, hold w.drew rfl]
        have hr0 : gRep n z.cells.toList = [] := by rw [hn0]; rfl
        simp only [gRun_newRow, Result.andThen_ok, List.append_assoc, hr0, List.nil_append]
        rfl
      · simp [Builtin.append_, h0, h1, run_underlying hu, run_underlying hu', sizeOf, typeInfo, zeroValue, hi, hz, asInt, asIntOf, w1, t1, t2', hns, hz0, hzc, hnc', hmx, Question.forced, ask, hold w.drew rfl]
        simp only [gRun_newRow, Result.andThen_ok, List.append_assoc]
        rfl
  · have hint2 : ∀ k, d ≠ .int k := fun k e => by rw [e] at hint; cases hint
    have hm : (match d with | .int _ => true | _ => false) = false := by cases d <;> first | rfl | exact absurd rfl (hint2 _)
    constructor
    · intro hfit
      simp [Builtin.append_, h0, h1, run_underlying hu, run_underlying hu', sizeOf, typeInfo, hi, hm, hlo, hfit, hfc w rfl]
      cases base <;> simp
    · intro hno olds hol hold
      have hns : ¬ (sLen + n ≤ sCap) := by omega
      have hnc : Builtin.nextslicecap (sLen + n) sCap * ie.bytes ≤ 281474976710656 := growslice_fits hno (by omega)
      have hnc' : ¬ (281474976710656 < Builtin.nextslicecap (sLen + n) sCap * ie.bytes) := by omega
      have hmx : ¬ (9223372036854775807 < (sLen : Int) + (n : Int)) := by omega
      refine ⟨grownCap w (sLen + n) sCap e, grownCap_ge w (sLen + n) sCap e, grownCap_le_maxLen w (sLen + n) sCap e (by simp only [maxLen]; omega), ?_⟩
      simp [Builtin.append_, h0, h1, run_underlying hu, run_underlying hu', sizeOf, typeInfo, zeroValue, hi, hz, hm, hlo, hns, hzc, hnc', hmx, Question.forced, ask, hold w.drew rfl, hfc w.drew rfl]
      simp only [gRun_newRow, Result.andThen_ok, List.append_assoc]
      rfl
end
theorem sub0 (base : Option Addr) (c h : Nat) (hb : ∀ ad, base = some ad → ad.spot = none) : Value.slice (if c = 0 then base else base.map (·.add (0 * 1))) (h - 0) (c - 0) = .slice base h c := by
  have : (if c = 0 then base else base.map (·.add (0 * 1))) = base := by
    split
    · rfl
    · cases base with
      | none => rfl
      | some ad => simp [Addr.add]
  rw [this]
  simp

/-- What slices.Grow hands back. -/
def Grown (w0 : World) (L : List Asn) (w : World) (base : Option Addr) (len c n : Nat) (all : List Value) (v : Value) (w' : World) : Prop :=
  (n + len ≤ c ∧ v = .slice base len c ∧ w' = w) ∨ ∃ cap rest, len ≤ cap ∧ cap ≤ 9223372036854775807 ∧ v = .slice (some ⟨w.heap.size, 0, none⟩) len cap ∧ (all ++ rest).length = cap ∧ w' = { w with drawn := w.drawn + 1, heap := w.heap.push (.cells (all ++ rest).toArray 5) }

theorem grow_spec {w0 w : World} {L : List Asn} {base : Option Addr} {len c n : Nat} {all : List Value} (hs : St w0 L w) (hb : ∀ ad, base = some ad → ad.spot = none) (hlc : len ≤ c) (hc : c ≤ 9223372036854775807) (hn : n ≤ 1000000) (hl : len ≤ 1000000) (hall : all.length = c)
    (hf : ∀ w1 : World, w1.heap = w.heap → (Builtin.firstCells 1 c (.slice base c c)).run Tryz.prog w1 = .ok all.toArray w1) :
    Calls Tryz.prog 211 #[.slice base len c, .int .i64 n] w (Ret (Grown w0 L w base len c n all)) := by
  refine enter (args := [.slice base len c, .int .i64 n]) Tryz.func211 rfl Tryz.ntmps211 (Nat.le_of_ble_eq_true (by kernel_rfl)) ?_
  refine GoC.slots (S' := [(0, .slice base len c), (1, .int .i64 n)]) rfl ?_
  refine GoC.seq ?_
  refine GoC.regT [1] (.rd 0 .done) (by kernel_rfl) (by kernel_rfl) ?_
  refine GoR.phaseK [(0, .gen [])] [4, 0, 1] [] [(4, .slice none 0 0), (0, .slice base len c), (1, .int .i64 n)] (by kernel_rfl) rfl ak0 ?_
  refine GoR.done (GoQ.thn (GoC.seq (GoC.seq ?_)))
  refine GoC.regT [3, 3] (.rd 0 (.rd 1 .done)) (by kernel_rfl) (by kernel_rfl) ?_
  refine GoR.phaseK [(0, .gen []), (1, .gen [])] [6, 4, 0, 1] [] [(6, .bool (decide ((n : Int) < 0))), (4, .slice none 0 0), (0, .slice base len c), (1, .int .i64 n)] (by kernel_rfl) rfl ak0 ?_
  refine GoR.done (GoQ.thn ?_)
  refine GoC.cond (t := decide ((n : Int) < 0)) (by kernel_rfl) (fun h1 => ?_) (fun h1 => ?_)
  · exact absurd (of_decide_eq_true h1) (by omega)
  refine GoC.skip (GoQ.thn (GoC.seq (GoC.seq ?_)))
  have e1 : IntKind.i64.wrap ((c : Int) - (len : Int)) = (c : Int) - (len : Int) := i64w (by omega) (by omega)
  have e2 : IntKind.i64.wrap ((n : Int) - ((c : Int) - (len : Int))) = (n : Int) - ((c : Int) - (len : Int)) := i64w (by omega) (by omega)
  refine GoC.regT [] (.rd 0 (.rd 1 (.rd 2 (.rd 3 (.rd 4 (.rd 5 (.rd 6 (.rd 7 .done)))))))) (by kernel_rfl) (by kernel_rfl) ?_
  refine GoR.phaseK [(0, .gen []), (1, .gen []), (2, .gen []), (3, .gen []), (4, .gen []), (5, .as_ (.int .i64 ((c : Int) - (len : Int))) (.gen [])), (6, .as_ (.int .i64 ((n : Int) - ((c : Int) - (len : Int)))) (.gen [])), (7, .gen [])] [1, 0]
    [(5, [.prop (Value.int .i64 (IntKind.i64.wrap ((c : Int) - (len : Int))) = .int .i64 ((c : Int) - (len : Int)))]), (6, [.prop (Value.int .i64 (IntKind.i64.wrap ((n : Int) - ((c : Int) - (len : Int)))) = .int .i64 ((n : Int) - ((c : Int) - (len : Int))))])]
    [(1, .int .i64 ((n : Int) - ((c : Int) - (len : Int)))), (0, .slice base len c)] (by kernel_rfl) rfl (ak (okp (by rw [e1]) ok0) (ak (okp (by rw [e2]) ok0) ak0)) ?_
  refine GoR.done (GoQ.thn (GoC.seq ?_))
  refine GoC.regT [] (.rd 0 (.rd 1 .done)) (by kernel_rfl) (by kernel_rfl) ?_
  refine GoR.phaseK [(0, .gen []), (1, .gen [])] [16, 1, 0] [] [(16, .bool (decide ((n : Int) - ((c : Int) - (len : Int)) > 0))), (1, .int .i64 ((n : Int) - ((c : Int) - (len : Int)))), (0, .slice base len c)] (by kernel_rfl) rfl ak0 ?_
  refine GoR.done (GoQ.thn ?_)
  refine GoC.cond (t := decide ((n : Int) - ((c : Int) - (len : Int)) > 0)) (by kernel_rfl) (fun h2 => ?_) (fun h2 => ?_)
  · have h2' := of_decide_eq_true h2
    obtain ⟨k, hk⟩ : ∃ k : Nat, (k : Int) = (n : Int) - ((c : Int) - (len : Int)) := ⟨(n + len) - c, by omega⟩
    rw [← hk]
    have hkp : 0 < k := by omega
    have hck : c + k = n + len := by omega
    refine GoC.regT [0, 0, 0, 0, 0, 255] (.rd 0 (.rd 1 (.rd 2 (.rd 3 (.rd 4 (.ef 5 (.rd 6 (.rd 7 (.rd 8 (.rd 9 .done)))))))))) (by kernel_rfl) (by kernel_rfl) ?_
    refine GoR.phaseK [(0, .gen []), (1, .gen []), (2, .gen []), (3, .as_ (.slice base c c) (.sub 0 c)), (4, .gen [])] [21, 20, 1, 0]
      [(3, [.prop ((c : Int) = (c : Int)), .prop (((none : Option Operand) = none → 0 = 0) ∧ (some (Operand.tmp 19) = none → c = len) ∧ 0 ≤ c ∧ c ≤ c), .prop (Value.slice (if c = 0 then base else base.map (·.add (0 * 1))) (c - 0) (c - 0) = .slice base c c)])]
      [(21, .int .i64 k), (20, .slice base c c), (1, .int .i64 k), (0, .slice base len c)] (by kernel_rfl) rfl (ak (okp rfl (okp ⟨fun _ => rfl, (fun h => by cases h), Nat.zero_le _, Nat.le_refl _⟩ (okp (sub0 base c c hb) ok0))) ak0) ?_
    obtain ⟨r1, r2⟩ := gAppendRun (P := Tryz.prog) (w := w) (ts := #[87, 3]) (t := 87) (t' := 3) (e := 5) (ty := 87) (d := .int .i64) (ie := Tryz.t5) (z := .int .u8 0) (base := base) (sLen := c) (sCap := c) (x := .int .i64 k) (n := k) (us := gRep k [.int .u8 0]) rfl rfl (by kernel_rfl) (by kernel_rfl) (by kernel_rfl) (by kernel_rfl) (by decide) (by kernel_rfl)
      (by rw [gRep_length]; rfl) (by show (c + k) * (1 + 1) ≤ 1000000000; omega) (.inl ⟨rfl, ⟨.i64, rfl⟩, rfl⟩)
    obtain ⟨cap, g1, g2, g3⟩ := r2 (by omega) all (by rw [hall]; exact (Nat.mul_one c).symm) hf
    have g4 : (all ++ gRep k [Value.int .u8 0] ++ gRep (cap - (c + k)) [Value.int .u8 0]).length = cap := by
      rw [List.length_append, List.length_append, gRep_length, gRep_length, hall]
      simp only [List.length_cons, List.length_nil]
      omega
    generalize hw2 : ({ w with drawn := w.drawn + 1, heap := w.heap.push (.cells (all ++ gRep k [Value.int .u8 0] ++ gRep (cap - (c + k)) [Value.int .u8 0]).toArray 5) } : World) = w2
    have g3' : (Builtin.append_ #[87, 3] 87 #[Value.slice base c c, .int .i64 k]).run Tryz.prog w = .ok (.slice (some ⟨w.heap.size, 0, none⟩) (c + k) cap) w2 := by rw [← hw2]; exact g3
    refine GoR.run rfl (by kernel_rfl) (.slice (some ⟨w.heap.size, 0, none⟩) (c + k) cap) w2 (fun a hfit => .inl ?_) (opn (by kernel_rfl)) ?_
    · obtain ⟨cs, hrun⟩ := run_bArgs (P := Tryz.prog) hfit (b := .append) (ts := [87, 3]) (vs := [.slice base c c, .int .i64 k]) (by kernel_rfl) w
      rw [hrun]
      simp only [builtin, Sem.run_bind]
      erw [g3']
      rfl
    · refine GoR.phaseK [(6, .gen []), (7, .gen []), (8, .as_ (.slice (some ⟨w.heap.size, 0, none⟩) len cap) (.sub 0 len)), (9, .gen [])] [0]
        [(8, [.prop ((len : Int) = (len : Int)), .prop (((none : Option Operand) = none → 0 = 0) ∧ (some (Operand.tmp 24) = none → len = c + k) ∧ 0 ≤ len ∧ len ≤ cap), .prop (Value.slice (if cap = 0 then some ⟨w.heap.size, 0, none⟩ else (some (Addr.mk w.heap.size 0 none)).map (·.add (0 * 1))) (len - 0) (cap - 0) = .slice (some ⟨w.heap.size, 0, none⟩) len cap)])]
        [(0, .slice (some ⟨w.heap.size, 0, none⟩) len cap)] (by kernel_rfl) rfl (ak (okp rfl (okp ⟨fun _ => rfl, (fun h => by cases h), Nat.zero_le _, by omega⟩ (okp (sub0 _ cap len (fun ad h => by cases h; rfl)) ok0))) ak0) ?_
      refine GoR.done (GoQ.thn (GoC.seq ?_))
      refine GoC.regT [] (.rd 0 (.rd 1 .done)) (by kernel_rfl) (by kernel_rfl) ?_
      refine GoR.phaseK [(0, .gen []), (1, .gen [])] [4] [] [(4, .slice (some ⟨w.heap.size, 0, none⟩) len cap)] (by kernel_rfl) rfl ak0 ?_
      refine GoR.done (GoQ.thn (GoC.ret ?_))
      refine GoQ.done (.inl rfl) (v := .slice (some ⟨w.heap.size, 0, none⟩) len cap) (fun a hf => results1 rfl (by kernel_rfl) a hf) ?_
      refine .inr ⟨cap, gRep k [Value.int .u8 0] ++ gRep (cap - (c + k)) [Value.int .u8 0], by omega, g2, rfl, by rw [← List.append_assoc]; exact g4, ?_⟩
      rw [← hw2, List.append_assoc]
  · have h2' := of_decide_eq_false h2
    refine GoC.skip (GoQ.thn (GoC.seq ?_))
    refine GoC.regT [] (.rd 0 (.rd 1 .done)) (by kernel_rfl) (by kernel_rfl) ?_
    refine GoR.phaseK [(0, .gen []), (1, .gen [])] [4] [] [(4, .slice base len c)] (by kernel_rfl) rfl ak0 ?_
    refine GoR.done (GoQ.thn (GoC.ret ?_))
    refine GoQ.done (.inl rfl) (v := .slice base len c) (fun a hf => results1 rfl (by kernel_rfl) a hf) ?_
    exact .inl ⟨by omega, rfl, rfl⟩

end Go.Proofs.YtapmfbjlhjekiaaGreatDoor
