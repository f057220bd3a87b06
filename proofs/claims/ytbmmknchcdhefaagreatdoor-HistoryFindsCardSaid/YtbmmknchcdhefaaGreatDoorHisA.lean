/-
  Calls, names; what is asked of single calls. Conditions: none beside each theorem's own.
-/
import Derived.Test.YtbmmknchcdhefaaGreatDoorSxT
import Derived.Test.YtbmmknchcdhefaaGreatDoorHisO
namespace Go.Proofs.YtbmmknchcdhefaaGreatDoor
open Go.RowKit Go.Sx
set_option linter.unusedVariables false
set_option linter.unusedSimpArgs false
set_option linter.unnecessarySimpa false
set_option maxRecDepth 100000
structure CallV where
  client : Int
  time : Int
  op : OpV
  from_ : Int
  to_ : Int
  done : Bool
  reply : RepV
deriving DecidableEq
def CallV.cells (x : CallV) : Array Value := #[.int .i64 x.client, .int .u64 x.time, .int .u8 x.op.kind, .string x.op.key, .string x.op.value, .string x.op.old, .string x.op.dest, .int .u64 x.op.amount, .int .u64 x.from_, .int .u64 x.to_, .bool x.done, .int .i64 x.reply.err, .string x.reply.value]
abbrev dCall : CallV := ⟨0, 0, dOp, 0, 0, false, ⟨0, ⟨#[]⟩⟩⟩
theorem callF : CellF CallV.cells 13 := ⟨fun _ => rfl, fun _ => rfl⟩
theorem callsOK : ElemOK Tryz.prog 22 53 13 144 := ⟨by kernel_rfl, ⟨Tryz.t53, .agg dCall.cells, by kernel_rfl, by kernel_rfl, by kernel_rfl, by kernel_rfl, by kernel_rfl⟩, by decide⟩
theorem reqsOK : ElemOK Tryz.prog 23 56 40 128 := ⟨by kernel_rfl, ⟨Tryz.t56, .agg dReq.cells, by kernel_rfl, by kernel_rfl, by kernel_rfl, by kernel_rfl, by kernel_rfl⟩, by decide⟩
def natC (n : Nat) : Array Value := #[.int .i64 (n : Nat)]
theorem natF : CellF natC 1 := ⟨fun _ => rfl, fun _ => rfl⟩
theorem natsOK : ElemOK Tryz.prog 34 3 1 8 := ⟨by kernel_rfl, ⟨Tryz.t3, .int .i64 0, by kernel_rfl, by kernel_rfl, by kernel_rfl, by kernel_rfl, by kernel_rfl⟩, by decide⟩
structure NameV where
  cl : Int
  tm : Int
deriving DecidableEq
def NameV.cells (x : NameV) : Array Value := #[.int .i64 x.cl, .int .u64 x.tm]
abbrev ekN : NameV → Value := fun k => .agg (NameV.cells k)
abbrev evI : Int → Value := Value.int .i64
abbrev evR : RepV → Value := fun k => .agg (RepV.cells k)
theorem nameEq (a b : NameV) : eqFlat Tryz.prog 2 73 (.agg a.cells) (.agg b.cells) = decide (a = b) := by
  have h : eqFlat Tryz.prog 2 73 (.agg a.cells) (.agg b.cells) = (a.cl == b.cl && (a.tm == b.tm && true)) := by kernel_rfl
  rw [h, int_beq, int_beq, Bool.and_true]
  obtain ⟨a1, a2⟩ := a
  obtain ⟨b1, b2⟩ := b
  simp only [NameV.mk.injEq, Bool.decide_and]
theorem name_equal (a b : NameV) (w : World) : (Op.equal 73 (ekN a) (ekN b)).run Tryz.prog w = .ok (decide (a = b)) w := by
  have h := run_equalIn_flat (P := Tryz.prog) 2 73 (ekN a) (ekN b) 9998 w (by kernel_rfl)
  rw [nameEq] at h
  exact h
theorem nmLaw : MapLaw Tryz.prog 91 ekN evI 73 3 :=
  MapLaw.ask (by kernel_rfl) (d := .struct (Tryz.prog.fieldsOf 73)) (by kernel_rfl) (fun a b => rfl) name_equal (fun a => by simp [Instr.sameBits, ekN, NameV.cells]) (fun em a w => rfl)
theorem rpLaw : MapLaw Tryz.prog 101 evI evR 3 51 :=
  MapLaw.now (by kernel_rfl) ⟨.int .i64, by kernel_rfl, fun a b => by simp [Instr.sameNow, evI, int_beq], .inl ⟨_, rfl⟩⟩ (fun a => by simp [Instr.sameBits, evI]) (fun em a w => rfl)
def tagE (a b : Vector Int 32) : Bool := a[0] == b[0] && (a[1] == b[1] && (a[2] == b[2] && (a[3] == b[3] && (a[4] == b[4] && (a[5] == b[5] && (a[6] == b[6] && (a[7] == b[7] && (a[8] == b[8] && (a[9] == b[9] && (a[10] == b[10] && (a[11] == b[11] && (a[12] == b[12] && (a[13] == b[13] && (a[14] == b[14] && (a[15] == b[15] && (a[16] == b[16] && (a[17] == b[17] && (a[18] == b[18] && (a[19] == b[19] && (a[20] == b[20] && (a[21] == b[21] && (a[22] == b[22] && (a[23] == b[23] && (a[24] == b[24] && (a[25] == b[25] && (a[26] == b[26] && (a[27] == b[27] && (a[28] == b[28] && (a[29] == b[29] && (a[30] == b[30] && (a[31] == b[31] && true)))))))))))))))))))))))))))))))
theorem tagE_eq (a b : Vector Int 32) : tagE a b = decide (a = b) := by
  by_cases h : a = b
  · subst h; simp [tagE]
  · rw [decide_eq_false h]
    cases ht : tagE a b with
    | false => rfl
    | true =>
      exfalso
      apply h
      simp only [tagE, Bool.and_eq_true, beq_iff_eq] at ht
      obtain ⟨h0, h1, h2, h3, h4, h5, h6, h7, h8, h9, h10, h11, h12, h13, h14, h15, h16, h17, h18, h19, h20, h21, h22, h23, h24, h25, h26, h27, h28, h29, h30, h31, -⟩ := ht
      apply Vector.ext
      intro i hi
      match i, hi with
      | 0, _ => exact h0
      | 1, _ => exact h1
      | 2, _ => exact h2
      | 3, _ => exact h3
      | 4, _ => exact h4
      | 5, _ => exact h5
      | 6, _ => exact h6
      | 7, _ => exact h7
      | 8, _ => exact h8
      | 9, _ => exact h9
      | 10, _ => exact h10
      | 11, _ => exact h11
      | 12, _ => exact h12
      | 13, _ => exact h13
      | 14, _ => exact h14
      | 15, _ => exact h15
      | 16, _ => exact h16
      | 17, _ => exact h17
      | 18, _ => exact h18
      | 19, _ => exact h19
      | 20, _ => exact h20
      | 21, _ => exact h21
      | 22, _ => exact h22
      | 23, _ => exact h23
      | 24, _ => exact h24
      | 25, _ => exact h25
      | 26, _ => exact h26
      | 27, _ => exact h27
      | 28, _ => exact h28
      | 29, _ => exact h29
      | 30, _ => exact h30
      | 31, _ => exact h31
      | n + 32, h => omega
theorem reqEq (a b : ReqV) : eqFlat Tryz.prog 3 56 (.agg a.cells) (.agg b.cells) = decide (a = b) := by
  have h : eqFlat Tryz.prog 3 56 (.agg a.cells) (.agg b.cells) = (a.client == b.client && (a.time == b.time && (eqFlat Tryz.prog 2 44 (.agg a.op.cells) (.agg b.op.cells) && (tagE a.tag b.tag && true)))) := by kernel_rfl
  rw [h, opEq, tagE_eq, int_beq, int_beq, Bool.and_true]
  obtain ⟨a1, a2, a3, a4⟩ := a
  obtain ⟨b1, b2, b3, b4⟩ := b
  simp only [ReqV.mk.injEq, Bool.decide_and]
/-! ### the first of some of which something is so -/
def firstO (n : Nat) (p : Nat → Bool) : Option Nat := (List.range n).find? p
theorem firstO_none {n : Nat} {p : Nat → Bool} (h : ∀ i, i < n → p i = false) : firstO n p = none := by
  unfold firstO
  rw [List.find?_eq_none]
  intro x hx
  rw [h x (List.mem_range.1 hx)]
  decide
theorem firstO_some {n k : Nat} {p : Nat → Bool} (hk : k < n) (h : p k = true) (h0 : ∀ i, i < k → p i = false) : firstO n p = some k := by
  unfold firstO
  rw [List.find?_eq_some_iff_append]
  refine ⟨h, List.range k, List.range' (k + 1) (n - (k + 1)), ?_, fun x hx => by rw [h0 x (List.mem_range.1 hx)]; rfl⟩
  have e1 : List.range n = List.range k ++ List.range' k (n - k) := by
    rw [List.range_eq_range', List.range_eq_range']
    have h9 := List.range'_append_1 (s := 0) (m := k) (n := n - k)
    rw [Nat.zero_add, show k + (n - k) = n by omega] at h9
    exact h9.symm
  rw [e1, show n - k = (n - (k + 1)) + 1 by omega, List.range'_succ]
theorem firstO_iff {n k : Nat} {p : Nat → Bool} : firstO n p = some k ↔ k < n ∧ p k = true ∧ ∀ i, i < k → p i = false := by
  constructor
  · intro h
    by_cases hx : ∃ i, i < n ∧ p i = true
    · have hm : ∃ i, (i < n ∧ p i = true) ∧ ∀ j, j < i → ¬ (j < n ∧ p j = true) := by
        obtain ⟨i, hi⟩ := hx
        induction i using Nat.strongRecOn with
        | ind i ih =>
          by_cases hj : ∃ j, j < i ∧ (j < n ∧ p j = true)
          · obtain ⟨j, h1, h2⟩ := hj
            exact ih j h1 h2
          · exact ⟨i, hi, fun j hj1 hj2 => hj ⟨j, hj1, hj2⟩⟩
      obtain ⟨i, hi, hlt⟩ := hm
      have hz : ∀ j, j < i → p j = false := fun j hj => by
        cases hp : p j with
        | false => rfl
        | true => exact absurd ⟨by omega, hp⟩ (hlt j hj)
      rw [firstO_some hi.1 hi.2 hz] at h
      obtain rfl := Option.some.inj h
      exact ⟨hi.1, hi.2, hz⟩
    · rw [firstO_none (fun i hi => by
        cases hp : p i with
        | false => rfl
        | true => exact absurd ⟨i, hi, hp⟩ hx)] at h
      cases h
  · rintro ⟨h1, h2, h3⟩
    exact firstO_some h1 h2 h3
theorem firstO_none_iff {n : Nat} {p : Nat → Bool} : firstO n p = none ↔ ∀ i, i < n → p i = false := by
  refine ⟨fun h i hi => ?_, firstO_none⟩
  unfold firstO at h
  rw [List.find?_eq_none] at h
  have := h i (List.mem_range.2 hi)
  simpa using this
def idx {α : Type} (d : α) (l : List α) (p : α → Bool) : Option Nat := firstO l.length fun i => p (l.getD i d)
def ixI : Option Nat → Int
  | some k => (k : Nat)
  | none => -1
theorem idx_at {α : Type} {d : α} {l : List α} {p : α → Bool} {k : Nat} (hk : k < l.length) (h : p (l.getD k d) = true) (h0 : ∀ i, i < k → p (l.getD i d) = false) : idx d l p = some k := firstO_some hk h h0
theorem idx_none {α : Type} {d : α} {l : List α} {p : α → Bool} (h0 : ∀ i, i < l.length → p (l.getD i d) = false) : idx d l p = none := firstO_none h0
theorem none_step {k : Nat} {p : Nat → Bool} (h0 : ∀ i, i < k → p i = false) (h : p k = false) : ∀ i, i < k + 1 → p i = false := fun i hi => by
  rcases Nat.lt_succ_iff_lt_or_eq.1 hi with h1 | rfl
  · exact h0 i h1
  · exact h
theorem ixI_some (o : Option Nat) : decide (ixI o ≥ 0) = o.isSome := by
  cases o with
  | none => rfl
  | some k => exact decide_eq_true (show (0 : Int) ≤ ((k : Nat) : Int) by omega)
def nameOf (c : CallV) : NameV :=
  (⟨c.client, c.time⟩ : NameV)
theorem nameOf_spec {w0 w : World} {L : List Asn} (c : CallV) (hs : St w0 L w) : Calls Tryz.prog 21 #[.agg (CallV.cells c)] w (Ret fun rv w' => rv = .agg (NameV.cells (nameOf c)) ∧ St w0 L w') := by
  refine enter (args := [.agg (CallV.cells c)]) Tryz.func21 rfl Tryz.ntmps21 (Nat.le_of_ble_eq_true (by kernel_rfl)) ?_
  refine GoC.slots (S' := [(0, .agg (CallV.cells c))]) rfl ?_
  refine GoC.seq ?_
  refine Xt (.ef 0 (.ef 1 .done)) ?_
  refine GoR.box rfl rfl (by kernel_rfl) (v := .agg (CallV.cells c)) (by kernel_rfl) hs (cs := CallV.cells c) (by kernel_rfl) ?_
  intro b1 w2 hs3
  refine ⟨Xo, ?_⟩
  refine GoR.alloc rfl rfl (by kernel_rfl) (z := .agg #[.int .i64 0, .int .u64 0]) (by kernel_rfl) hs3 (cs := #[.int .i64 0, .int .u64 0]) (by kernel_rfl) ?_
  intro b4 w5 hs6
  refine ⟨Xo, ?_⟩
  refine GoR.done (GoQ.thn (GoC.seq ?_))
  refine Xt (.rd 0 (.rd 1 (.rd 2 (.rd 3 (.rd 4 (.ef 5 .done)))))) ?_
  refine Xk [(0, .gen []), (1, .gen [.int .i64 c.client]), (2, .gen []), (3, .gen [.int .u64 c.time]), (4, .gen [])] [(1, [.cell ⟨b1, 0, none⟩ (.int .i64 c.client)]), (3, [.cell ⟨b1, 1, none⟩ (.int .u64 c.time)])] [(7, .agg #[.int .i64 c.client, .int .u64 c.time]), (2, vp b4 0)] (ak (okc (hs6.cell 1 rfl (by kernel_rfl)) ok0) (ak (okc (hs6.cell 1 rfl (by kernel_rfl)) ok0) ak0)) ?_
  refine GoR.store rfl rfl (by kernel_rfl) (b := b4) (off := 0) (v := .agg #[.int .i64 c.client, .int .u64 c.time]) (by kernel_rfl) (by kernel_rfl) (ti := Tryz.t73) (by kernel_rfl) hs6 0 rfl (by kernel_rfl) (by kernel_rfl) (Nat.le_of_ble_eq_true (by kernel_rfl)) (cs' := #[.int .i64 c.client, .int .u64 c.time]) (L' := (Cel b4 #[.int .i64 c.client, .int .u64 c.time] 73) :: (Cel b1 (CallV.cells c) 53) :: L) (by kernel_rfl) rfl ?_
  intro w7 hs8
  refine ⟨Xo, ?_⟩
  refine GoR.done (GoQ.thn (GoC.ret ?_))
  refine GoQ.done (.inl rfl) (v := .agg #[.int .i64 c.client, .int .u64 c.time]) (fun a hf => resultsA rfl (by kernel_rfl) (ti := Tryz.t73) (by kernel_rfl) (by kernel_rfl) (vs := #[.int .i64 c.client, .int .u64 c.time]) (by kernel_rfl) (hs8.cells 0 0 rfl (by kernel_rfl)) a hf) ?_
  have hr : nameOf c = (⟨c.client, c.time⟩ : NameV) := by rw [nameOf]
  exact ⟨by first | (rw [hr]; done) | (rw [hr]; rfl), hs8.drop 2⟩
def reqOf (c : CallV) : ReqV :=
  (⟨c.client, c.time, ⟨c.op.kind, c.op.key, c.op.value, c.op.old, c.op.dest, c.op.amount⟩, #v[0, 0, 0, 0, 0, 0, 0, 0, 0, 0, 0, 0, 0, 0, 0, 0, 0, 0, 0, 0, 0, 0, 0, 0, 0, 0, 0, 0, 0, 0, 0, 0]⟩ : ReqV)
theorem reqOf_spec {w0 w : World} {L : List Asn} (c : CallV) (hs : St w0 L w) : Calls Tryz.prog 37 #[.agg (CallV.cells c)] w (Ret fun rv w' => rv = .agg (ReqV.cells (reqOf c)) ∧ St w0 L w') := by
  refine enter (args := [.agg (CallV.cells c)]) Tryz.func37 rfl Tryz.ntmps37 (Nat.le_of_ble_eq_true (by kernel_rfl)) ?_
  refine GoC.slots (S' := [(0, .agg (CallV.cells c))]) rfl ?_
  refine GoC.seq ?_
  refine Xt (.ef 0 (.ef 1 .done)) ?_
  refine GoR.box rfl rfl (by kernel_rfl) (v := .agg (CallV.cells c)) (by kernel_rfl) hs (cs := CallV.cells c) (by kernel_rfl) ?_
  intro b1 w2 hs3
  refine ⟨Xo, ?_⟩
  refine GoR.alloc rfl rfl (by kernel_rfl) (z := .agg (ReqV.cells dReq)) (by kernel_rfl) hs3 (cs := ReqV.cells dReq) (by kernel_rfl) ?_
  intro b4 w5 hs6
  refine ⟨Xo, ?_⟩
  refine GoR.done (GoQ.thn (GoC.seq ?_))
  refine Xt (.rd 0 (.rd 1 (.rd 2 (.rd 3 (.rd 4 (.rd 5 (.rd 6 (.ef 7 .done)))))))) ?_
  refine Xk [(0, .gen []), (1, .gen [.int .i64 c.client]), (2, .gen []), (3, .gen [.int .u64 c.time]), (4, .gen []), (5, .agg (OpV.cells c.op)), (6, .gen [])] [(1, [.cell ⟨b1, 0, none⟩ (.int .i64 c.client)]), (3, [.cell ⟨b1, 1, none⟩ (.int .u64 c.time)]), (5, [.prop (Array.size (OpV.cells c.op) = 6), .cells ⟨b1, 2, none⟩ (OpV.cells c.op)])] [(9, .agg #[.int .i64 c.client, .int .u64 c.time, .int .u8 c.op.kind, .string c.op.key, .string c.op.value, .string c.op.old, .string c.op.dest, .int .u64 c.op.amount, .int .u8 0, .int .u8 0, .int .u8 0, .int .u8 0, .int .u8 0, .int .u8 0, .int .u8 0, .int .u8 0, .int .u8 0, .int .u8 0, .int .u8 0, .int .u8 0, .int .u8 0, .int .u8 0, .int .u8 0, .int .u8 0, .int .u8 0, .int .u8 0, .int .u8 0, .int .u8 0, .int .u8 0, .int .u8 0, .int .u8 0, .int .u8 0, .int .u8 0, .int .u8 0, .int .u8 0, .int .u8 0, .int .u8 0, .int .u8 0, .int .u8 0, .int .u8 0]), (2, vp b4 0)] (ak (okc (hs6.cell 1 rfl (by kernel_rfl)) ok0) (ak (okc (hs6.cell 1 rfl (by kernel_rfl)) ok0) (ak (okp (by kernel_rfl) (oka (hs6.cells 1 2 rfl (by kernel_rfl)) ok0)) ak0))) ?_
  refine GoR.store rfl rfl (by kernel_rfl) (b := b4) (off := 0) (v := .agg #[.int .i64 c.client, .int .u64 c.time, .int .u8 c.op.kind, .string c.op.key, .string c.op.value, .string c.op.old, .string c.op.dest, .int .u64 c.op.amount, .int .u8 0, .int .u8 0, .int .u8 0, .int .u8 0, .int .u8 0, .int .u8 0, .int .u8 0, .int .u8 0, .int .u8 0, .int .u8 0, .int .u8 0, .int .u8 0, .int .u8 0, .int .u8 0, .int .u8 0, .int .u8 0, .int .u8 0, .int .u8 0, .int .u8 0, .int .u8 0, .int .u8 0, .int .u8 0, .int .u8 0, .int .u8 0, .int .u8 0, .int .u8 0, .int .u8 0, .int .u8 0, .int .u8 0, .int .u8 0, .int .u8 0, .int .u8 0]) (by kernel_rfl) (by kernel_rfl) (ti := Tryz.t56) (by kernel_rfl) hs6 0 rfl (by kernel_rfl) (by kernel_rfl) (Nat.le_of_ble_eq_true (by kernel_rfl)) (cs' := #[.int .i64 c.client, .int .u64 c.time, .int .u8 c.op.kind, .string c.op.key, .string c.op.value, .string c.op.old, .string c.op.dest, .int .u64 c.op.amount, .int .u8 0, .int .u8 0, .int .u8 0, .int .u8 0, .int .u8 0, .int .u8 0, .int .u8 0, .int .u8 0, .int .u8 0, .int .u8 0, .int .u8 0, .int .u8 0, .int .u8 0, .int .u8 0, .int .u8 0, .int .u8 0, .int .u8 0, .int .u8 0, .int .u8 0, .int .u8 0, .int .u8 0, .int .u8 0, .int .u8 0, .int .u8 0, .int .u8 0, .int .u8 0, .int .u8 0, .int .u8 0, .int .u8 0, .int .u8 0, .int .u8 0, .int .u8 0]) (L' := (Cel b4 #[.int .i64 c.client, .int .u64 c.time, .int .u8 c.op.kind, .string c.op.key, .string c.op.value, .string c.op.old, .string c.op.dest, .int .u64 c.op.amount, .int .u8 0, .int .u8 0, .int .u8 0, .int .u8 0, .int .u8 0, .int .u8 0, .int .u8 0, .int .u8 0, .int .u8 0, .int .u8 0, .int .u8 0, .int .u8 0, .int .u8 0, .int .u8 0, .int .u8 0, .int .u8 0, .int .u8 0, .int .u8 0, .int .u8 0, .int .u8 0, .int .u8 0, .int .u8 0, .int .u8 0, .int .u8 0, .int .u8 0, .int .u8 0, .int .u8 0, .int .u8 0, .int .u8 0, .int .u8 0, .int .u8 0, .int .u8 0] 56) :: (Cel b1 (CallV.cells c) 53) :: L) (by kernel_rfl) rfl ?_
  intro w7 hs8
  refine ⟨Xo, ?_⟩
  refine GoR.done (GoQ.thn (GoC.ret ?_))
  refine GoQ.done (.inl rfl) (v := .agg #[.int .i64 c.client, .int .u64 c.time, .int .u8 c.op.kind, .string c.op.key, .string c.op.value, .string c.op.old, .string c.op.dest, .int .u64 c.op.amount, .int .u8 0, .int .u8 0, .int .u8 0, .int .u8 0, .int .u8 0, .int .u8 0, .int .u8 0, .int .u8 0, .int .u8 0, .int .u8 0, .int .u8 0, .int .u8 0, .int .u8 0, .int .u8 0, .int .u8 0, .int .u8 0, .int .u8 0, .int .u8 0, .int .u8 0, .int .u8 0, .int .u8 0, .int .u8 0, .int .u8 0, .int .u8 0, .int .u8 0, .int .u8 0, .int .u8 0, .int .u8 0, .int .u8 0, .int .u8 0, .int .u8 0, .int .u8 0]) (fun a hf => resultsA rfl (by kernel_rfl) (ti := Tryz.t56) (by kernel_rfl) (by kernel_rfl) (vs := #[.int .i64 c.client, .int .u64 c.time, .int .u8 c.op.kind, .string c.op.key, .string c.op.value, .string c.op.old, .string c.op.dest, .int .u64 c.op.amount, .int .u8 0, .int .u8 0, .int .u8 0, .int .u8 0, .int .u8 0, .int .u8 0, .int .u8 0, .int .u8 0, .int .u8 0, .int .u8 0, .int .u8 0, .int .u8 0, .int .u8 0, .int .u8 0, .int .u8 0, .int .u8 0, .int .u8 0, .int .u8 0, .int .u8 0, .int .u8 0, .int .u8 0, .int .u8 0, .int .u8 0, .int .u8 0, .int .u8 0, .int .u8 0, .int .u8 0, .int .u8 0, .int .u8 0, .int .u8 0, .int .u8 0, .int .u8 0]) (by kernel_rfl) (hs8.cells 0 0 rfl (by kernel_rfl)) a hf) ?_
  have hr : reqOf c = (⟨c.client, c.time, ⟨c.op.kind, c.op.key, c.op.value, c.op.old, c.op.dest, c.op.amount⟩, #v[0, 0, 0, 0, 0, 0, 0, 0, 0, 0, 0, 0, 0, 0, 0, 0, 0, 0, 0, 0, 0, 0, 0, 0, 0, 0, 0, 0, 0, 0, 0, 0]⟩ : ReqV) := by rw [reqOf]
  exact ⟨by first | (rw [hr]; done) | (rw [hr]; rfl), hs8.drop 2⟩
def aheadB (c : CallV) (d : CallV) : Bool :=
  (c.done && (decide ((c.to_ : Int) < d.from_)))
theorem aheadB_spec {w0 w : World} {L : List Asn} (c : CallV) (d : CallV) (hs : St w0 L w) : Calls Tryz.prog 46 #[.agg (CallV.cells c), .agg (CallV.cells d)] w (Ret fun rv w' => rv = .bool (aheadB c d) ∧ St w0 L w') := by
  refine enter (args := [.agg (CallV.cells c), .agg (CallV.cells d)]) Tryz.func46 rfl Tryz.ntmps46 (Nat.le_of_ble_eq_true (by kernel_rfl)) ?_
  refine GoC.slots (S' := [(0, .agg (CallV.cells c)), (1, .agg (CallV.cells d))]) rfl ?_
  refine GoC.seq ?_
  refine Xt (.ef 0 (.ef 1 (.rd 2 .done))) ?_
  refine GoR.box rfl rfl (by kernel_rfl) (v := .agg (CallV.cells c)) (by kernel_rfl) hs (cs := CallV.cells c) (by kernel_rfl) ?_
  intro b1 w2 hs3
  refine ⟨Xo, ?_⟩
  refine GoR.box rfl rfl (by kernel_rfl) (v := .agg (CallV.cells d)) (by kernel_rfl) hs3 (cs := CallV.cells d) (by kernel_rfl) ?_
  intro b4 w5 hs6
  refine ⟨Xo, ?_⟩
  refine Xk [(2, .gen [])] [] [(4, .bool false), (3, vp b4 0), (2, vp b1 0)] ak0 ?_
  refine GoR.done (GoQ.thn (GoC.seq ?_))
  refine GoC.join (T := Unit) (E := fun _ => [(4, .bool (c.done && (decide ((c.to_ : Int) < d.from_))))]) (F := fun _ w => St w0 ((Cel b4 (CallV.cells d) 53) :: (Cel b1 (CallV.cells c) 53) :: L) w) ?_ ?_
  · refine Xt (.rd 0 (.rd 1 (.rd 2 (.rd 3 (.rd 4 (.rd 5 (.rd 6 (.rd 7 (.rd 8 (.rd 9 .done)))))))))) ?_
    refine Xk [(0, .gen []), (1, .gen [.bool c.done]), (2, .gen [])] [(1, [.cell ⟨b1, 10, none⟩ (.bool c.done)])] [(7, .bool c.done), (4, .bool false), (3, vp b4 0), (2, vp b1 0)] (ak (okc (hs6.cell 1 rfl (by kernel_rfl)) ok0) ak0) ?_
    rcases Bool.eq_false_or_eq_true c.done with h7 | h7
    · refine Xs 7 true h7 ?_
      refine Xk [(3, .gen []), (4, .gen [.int .u64 c.to_]), (5, .gen []), (6, .gen [.int .u64 d.from_]), (7, .gen []), (8, .gen []), (9, .gen [])] [(4, [.cell ⟨b1, 9, none⟩ (.int .u64 c.to_)]), (6, [.cell ⟨b4, 8, none⟩ (.int .u64 d.from_)])] [(4, .bool (decide ((c.to_ : Int) < d.from_)))] (ak (okc (hs6.cell 1 rfl (by kernel_rfl)) ok0) (ak (okc (hs6.cell 0 rfl (by kernel_rfl)) ok0) ak0)) ?_
      refine GoR.done ?_
      refine GoQ.pick [4] (S' := [(4, .bool (decide ((c.to_ : Int) < d.from_)))]) (by kernel_rfl) ?_
      exact GoQ.meet1 () (by first | rfl | (simp only [h7, Bool.not_true, Bool.not_false, Bool.true_or, Bool.false_or, Bool.true_and, Bool.false_and, Bool.or_true, Bool.or_false, Bool.and_true, Bool.and_false]; done) | (simp [h7]; done)) hs6
    · refine Xs 7 false h7 ?_
      refine Xk [(3, .gen []), (4, .gen []), (5, .gen []), (6, .gen []), (7, .gen []), (8, .gen []), (9, .gen [])] [] [(4, .bool false)] ak0 ?_
      refine GoR.done ?_
      refine GoQ.pick [4] (S' := [(4, .bool false)]) (by kernel_rfl) ?_
      exact GoQ.meet1 () (by first | rfl | (simp only [h7, Bool.not_true, Bool.not_false, Bool.true_or, Bool.false_or, Bool.true_and, Bool.false_and, Bool.or_true, Bool.or_false, Bool.and_true, Bool.and_false]; done) | (simp [h7]; done)) hs6
  intro _ w8 hs9
  refine GoQ.thn (GoC.ret ?_)
  refine X1 (v := .bool (c.done && (decide ((c.to_ : Int) < d.from_)))) ?_
  have hr : aheadB c d = (c.done && (decide ((c.to_ : Int) < d.from_))) := by rw [aheadB]
  exact ⟨by first | (rw [hr]; done) | (rw [hr]; rfl), hs9.drop 2⟩
def nameQ (q : ReqV) : NameV :=
  (⟨q.client, q.time⟩ : NameV)
theorem nameQ_spec {w0 w : World} {L : List Asn} (q : ReqV) (hs : St w0 L w) : Calls Tryz.prog 26 #[.agg (ReqV.cells q)] w (Ret fun rv w' => rv = .agg (NameV.cells (nameQ q)) ∧ St w0 L w') := by
  refine enter (args := [.agg (ReqV.cells q)]) Tryz.func26 rfl Tryz.ntmps26 (Nat.le_of_ble_eq_true (by kernel_rfl)) ?_
  refine GoC.slots (S' := [(0, .agg (ReqV.cells q))]) rfl ?_
  refine GoC.seq ?_
  refine Xt (.ef 0 (.ef 1 .done)) ?_
  refine GoR.box rfl rfl (by kernel_rfl) (v := .agg (ReqV.cells q)) (by kernel_rfl) hs (cs := ReqV.cells q) (by kernel_rfl) ?_
  intro b1 w2 hs3
  refine ⟨Xo, ?_⟩
  refine GoR.alloc rfl rfl (by kernel_rfl) (z := .agg #[.int .i64 0, .int .u64 0]) (by kernel_rfl) hs3 (cs := #[.int .i64 0, .int .u64 0]) (by kernel_rfl) ?_
  intro b4 w5 hs6
  refine ⟨Xo, ?_⟩
  refine GoR.done (GoQ.thn (GoC.seq ?_))
  refine Xt (.rd 0 (.rd 1 (.rd 2 (.rd 3 (.rd 4 (.ef 5 .done)))))) ?_
  refine Xk [(0, .gen []), (1, .gen [.int .i64 q.client]), (2, .gen []), (3, .gen [.int .u64 q.time]), (4, .gen [])] [(1, [.cell ⟨b1, 0, none⟩ (.int .i64 q.client)]), (3, [.cell ⟨b1, 1, none⟩ (.int .u64 q.time)])] [(7, .agg #[.int .i64 q.client, .int .u64 q.time]), (2, vp b4 0)] (ak (okc (hs6.cell 1 rfl (by kernel_rfl)) ok0) (ak (okc (hs6.cell 1 rfl (by kernel_rfl)) ok0) ak0)) ?_
  refine GoR.store rfl rfl (by kernel_rfl) (b := b4) (off := 0) (v := .agg #[.int .i64 q.client, .int .u64 q.time]) (by kernel_rfl) (by kernel_rfl) (ti := Tryz.t73) (by kernel_rfl) hs6 0 rfl (by kernel_rfl) (by kernel_rfl) (Nat.le_of_ble_eq_true (by kernel_rfl)) (cs' := #[.int .i64 q.client, .int .u64 q.time]) (L' := (Cel b4 #[.int .i64 q.client, .int .u64 q.time] 73) :: (Cel b1 (ReqV.cells q) 56) :: L) (by kernel_rfl) rfl ?_
  intro w7 hs8
  refine ⟨Xo, ?_⟩
  refine GoR.done (GoQ.thn (GoC.ret ?_))
  refine GoQ.done (.inl rfl) (v := .agg #[.int .i64 q.client, .int .u64 q.time]) (fun a hf => resultsA rfl (by kernel_rfl) (ti := Tryz.t73) (by kernel_rfl) (by kernel_rfl) (vs := #[.int .i64 q.client, .int .u64 q.time]) (by kernel_rfl) (hs8.cells 0 0 rfl (by kernel_rfl)) a hf) ?_
  have hr : nameQ q = (⟨q.client, q.time⟩ : NameV) := by rw [nameQ]
  exact ⟨by first | (rw [hr]; done) | (rw [hr]; rfl), hs8.drop 2⟩
def ofB (c : CallV) (q : ReqV) : Bool := decide (c.client = q.client ∧ c.time = q.time ∧ c.op = q.op)
theorem of_eq (c : CallV) (q : ReqV) (t : Vector Int 32) (ht : t = #v[0, 0, 0, 0, 0, 0, 0, 0, 0, 0, 0, 0, 0, 0, 0, 0, 0, 0, 0, 0, 0, 0, 0, 0, 0, 0, 0, 0, 0, 0, 0, 0]) : decide (reqOf c = (⟨q.client, q.time, q.op, t⟩ : ReqV)) = ofB c q := by
  subst ht
  unfold ofB
  rw [decide_eq_decide]
  obtain ⟨c1, c2, c3, c4, c5, c6, c7⟩ := c
  obtain ⟨q1, q2, q3, q4⟩ := q
  constructor
  · intro h
    injection h with h1 h2 h3 h4
    exact ⟨h1, h2, h3⟩
  · rintro ⟨h1, h2, h3⟩
    simp only at h1 h2 h3
    subst h1 h2 h3
    rfl
theorem of_spec {w0 w : World} {L : List Asn} (c : CallV) (q : ReqV) (hs : St w0 (L) w) : Calls Tryz.prog 49 #[.agg (CallV.cells c), .agg (ReqV.cells q)] w (Ret fun rv w' => rv = .bool (ofB c q) ∧ St w0 (L) w') := by
  refine enter (args := [.agg (CallV.cells c), .agg (ReqV.cells q)]) Tryz.func49 rfl Tryz.ntmps49 (Nat.le_of_ble_eq_true (by kernel_rfl)) ?_
  refine GoC.slots (S' := [(0, .agg (CallV.cells c)), (1, .agg (ReqV.cells q))]) rfl ?_
  refine GoC.seq ?_
  refine Xt (.ef 0 (.ef 1 (.rd 2 .done))) ?_
  refine GoR.box rfl rfl (by kernel_rfl) (v := .agg (CallV.cells c)) (by kernel_rfl) hs (cs := CallV.cells c) (by kernel_rfl) ?_
  intro b1 w2 hs3
  refine ⟨Xo, ?_⟩
  refine GoR.box rfl rfl (by kernel_rfl) (v := .agg (ReqV.cells q)) (by kernel_rfl) hs3 (cs := ReqV.cells q) (by kernel_rfl) ?_
  intro b4 w5 hs6
  refine ⟨Xo, ?_⟩
  refine Xk [(2, .gen [])] [] [(4, .bool false), (3, vp b4 0), (2, vp b1 0)] ak0 ?_
  refine GoR.done (GoQ.thn (GoC.seq ?_))
  refine Xt (.rd 0 (.rd 1 (.ef 2 .done))) ?_
  refine Xk [(0, .gen []), (1, .gen [])] [] [(6, vp b4 8), (5, .agg #[.int .u8 0, .int .u8 0, .int .u8 0, .int .u8 0, .int .u8 0, .int .u8 0, .int .u8 0, .int .u8 0, .int .u8 0, .int .u8 0, .int .u8 0, .int .u8 0, .int .u8 0, .int .u8 0, .int .u8 0, .int .u8 0, .int .u8 0, .int .u8 0, .int .u8 0, .int .u8 0, .int .u8 0, .int .u8 0, .int .u8 0, .int .u8 0, .int .u8 0, .int .u8 0, .int .u8 0, .int .u8 0, .int .u8 0, .int .u8 0, .int .u8 0, .int .u8 0]), (4, .bool false), (3, vp b4 0), (2, vp b1 0)] ak0 ?_
  refine GoR.store rfl rfl (by kernel_rfl) (b := b4) (off := 8) (v := .agg #[.int .u8 0, .int .u8 0, .int .u8 0, .int .u8 0, .int .u8 0, .int .u8 0, .int .u8 0, .int .u8 0, .int .u8 0, .int .u8 0, .int .u8 0, .int .u8 0, .int .u8 0, .int .u8 0, .int .u8 0, .int .u8 0, .int .u8 0, .int .u8 0, .int .u8 0, .int .u8 0, .int .u8 0, .int .u8 0, .int .u8 0, .int .u8 0, .int .u8 0, .int .u8 0, .int .u8 0, .int .u8 0, .int .u8 0, .int .u8 0, .int .u8 0, .int .u8 0]) (by kernel_rfl) (by kernel_rfl) (ti := Tryz.t54) (by kernel_rfl) hs6 0 rfl (by kernel_rfl) (by kernel_rfl) (Nat.le_of_ble_eq_true (by kernel_rfl)) (cs' := #[.int .i64 q.client, .int .u64 q.time, .int .u8 q.op.kind, .string q.op.key, .string q.op.value, .string q.op.old, .string q.op.dest, .int .u64 q.op.amount, .int .u8 0, .int .u8 0, .int .u8 0, .int .u8 0, .int .u8 0, .int .u8 0, .int .u8 0, .int .u8 0, .int .u8 0, .int .u8 0, .int .u8 0, .int .u8 0, .int .u8 0, .int .u8 0, .int .u8 0, .int .u8 0, .int .u8 0, .int .u8 0, .int .u8 0, .int .u8 0, .int .u8 0, .int .u8 0, .int .u8 0, .int .u8 0, .int .u8 0, .int .u8 0, .int .u8 0, .int .u8 0, .int .u8 0, .int .u8 0, .int .u8 0, .int .u8 0]) (L' := (Cel b4 #[.int .i64 q.client, .int .u64 q.time, .int .u8 q.op.kind, .string q.op.key, .string q.op.value, .string q.op.old, .string q.op.dest, .int .u64 q.op.amount, .int .u8 0, .int .u8 0, .int .u8 0, .int .u8 0, .int .u8 0, .int .u8 0, .int .u8 0, .int .u8 0, .int .u8 0, .int .u8 0, .int .u8 0, .int .u8 0, .int .u8 0, .int .u8 0, .int .u8 0, .int .u8 0, .int .u8 0, .int .u8 0, .int .u8 0, .int .u8 0, .int .u8 0, .int .u8 0, .int .u8 0, .int .u8 0, .int .u8 0, .int .u8 0, .int .u8 0, .int .u8 0, .int .u8 0, .int .u8 0, .int .u8 0, .int .u8 0] 56) :: (Cel b1 (CallV.cells c) 53) :: L) (by kernel_rfl) rfl ?_
  intro w7 hs8
  refine ⟨Xo, ?_⟩
  refine GoR.done (GoQ.thn (GoC.seq ?_))
  refine GoC.regD [0, 1, 0, 7, 15] (.rd 0 (.rd 2 (.ef 1 (.rd 3 (.rd 4 .done))))) (by kernel_rfl) (by kernel_rfl) noPan_body (by kernel_rfl) hs8 ?_
  intro w9 hs10 hw11
  refine Xk [(0, .agg (CallV.cells c)), (2, .agg #[.int .i64 q.client, .int .u64 q.time, .int .u8 q.op.kind, .string q.op.key, .string q.op.value, .string q.op.old, .string q.op.dest, .int .u64 q.op.amount, .int .u8 0, .int .u8 0, .int .u8 0, .int .u8 0, .int .u8 0, .int .u8 0, .int .u8 0, .int .u8 0, .int .u8 0, .int .u8 0, .int .u8 0, .int .u8 0, .int .u8 0, .int .u8 0, .int .u8 0, .int .u8 0, .int .u8 0, .int .u8 0, .int .u8 0, .int .u8 0, .int .u8 0, .int .u8 0, .int .u8 0, .int .u8 0, .int .u8 0, .int .u8 0, .int .u8 0, .int .u8 0, .int .u8 0, .int .u8 0, .int .u8 0, .int .u8 0])] [(0, [.prop (Array.size (CallV.cells c) = 13), .cells ⟨b1, 0, none⟩ (CallV.cells c)]), (2, [.prop (Array.size (#[.int .i64 q.client, .int .u64 q.time, .int .u8 q.op.kind, .string q.op.key, .string q.op.value, .string q.op.old, .string q.op.dest, .int .u64 q.op.amount, .int .u8 0, .int .u8 0, .int .u8 0, .int .u8 0, .int .u8 0, .int .u8 0, .int .u8 0, .int .u8 0, .int .u8 0, .int .u8 0, .int .u8 0, .int .u8 0, .int .u8 0, .int .u8 0, .int .u8 0, .int .u8 0, .int .u8 0, .int .u8 0, .int .u8 0, .int .u8 0, .int .u8 0, .int .u8 0, .int .u8 0, .int .u8 0, .int .u8 0, .int .u8 0, .int .u8 0, .int .u8 0, .int .u8 0, .int .u8 0, .int .u8 0, .int .u8 0] : Array Value) = 40), .cells ⟨b4, 0, none⟩ #[.int .i64 q.client, .int .u64 q.time, .int .u8 q.op.kind, .string q.op.key, .string q.op.value, .string q.op.old, .string q.op.dest, .int .u64 q.op.amount, .int .u8 0, .int .u8 0, .int .u8 0, .int .u8 0, .int .u8 0, .int .u8 0, .int .u8 0, .int .u8 0, .int .u8 0, .int .u8 0, .int .u8 0, .int .u8 0, .int .u8 0, .int .u8 0, .int .u8 0, .int .u8 0, .int .u8 0, .int .u8 0, .int .u8 0, .int .u8 0, .int .u8 0, .int .u8 0, .int .u8 0, .int .u8 0, .int .u8 0, .int .u8 0, .int .u8 0, .int .u8 0, .int .u8 0, .int .u8 0, .int .u8 0, .int .u8 0]])] [(9, .agg #[.int .i64 q.client, .int .u64 q.time, .int .u8 q.op.kind, .string q.op.key, .string q.op.value, .string q.op.old, .string q.op.dest, .int .u64 q.op.amount, .int .u8 0, .int .u8 0, .int .u8 0, .int .u8 0, .int .u8 0, .int .u8 0, .int .u8 0, .int .u8 0, .int .u8 0, .int .u8 0, .int .u8 0, .int .u8 0, .int .u8 0, .int .u8 0, .int .u8 0, .int .u8 0, .int .u8 0, .int .u8 0, .int .u8 0, .int .u8 0, .int .u8 0, .int .u8 0, .int .u8 0, .int .u8 0, .int .u8 0, .int .u8 0, .int .u8 0, .int .u8 0, .int .u8 0, .int .u8 0, .int .u8 0, .int .u8 0]), (7, .agg (CallV.cells c)), (4, .bool false)] (ak (okp (by kernel_rfl) (oka (hs10.cells 1 0 rfl (by kernel_rfl)) ok0)) (ak (okp (by kernel_rfl) (oka (hs10.cells 0 0 rfl (by kernel_rfl)) ok0)) ak0)) ?_
  refine Xa (f := 37) (args := #[.agg (CallV.cells c)]) Tryz.call37 (reqOf_spec c  hs10) ?_
  rintro v13 w14 ⟨rfl, hs12⟩
  refine ⟨(opl (n := [.prop (Array.size (#[.int .i64 q.client, .int .u64 q.time, .int .u8 q.op.kind, .string q.op.key, .string q.op.value, .string q.op.old, .string q.op.dest, .int .u64 q.op.amount, .int .u8 0, .int .u8 0, .int .u8 0, .int .u8 0, .int .u8 0, .int .u8 0, .int .u8 0, .int .u8 0, .int .u8 0, .int .u8 0, .int .u8 0, .int .u8 0, .int .u8 0, .int .u8 0, .int .u8 0, .int .u8 0, .int .u8 0, .int .u8 0, .int .u8 0, .int .u8 0, .int .u8 0, .int .u8 0, .int .u8 0, .int .u8 0, .int .u8 0, .int .u8 0, .int .u8 0, .int .u8 0, .int .u8 0, .int .u8 0, .int .u8 0, .int .u8 0] : Array Value) = 40), .cells ⟨b4, 0, none⟩ #[.int .i64 q.client, .int .u64 q.time, .int .u8 q.op.kind, .string q.op.key, .string q.op.value, .string q.op.old, .string q.op.dest, .int .u64 q.op.amount, .int .u8 0, .int .u8 0, .int .u8 0, .int .u8 0, .int .u8 0, .int .u8 0, .int .u8 0, .int .u8 0, .int .u8 0, .int .u8 0, .int .u8 0, .int .u8 0, .int .u8 0, .int .u8 0, .int .u8 0, .int .u8 0, .int .u8 0, .int .u8 0, .int .u8 0, .int .u8 0, .int .u8 0, .int .u8 0, .int .u8 0, .int .u8 0, .int .u8 0, .int .u8 0, .int .u8 0, .int .u8 0, .int .u8 0, .int .u8 0, .int .u8 0, .int .u8 0]]) (by kernel_rfl) (okp (by kernel_rfl) (oka (hs12.cells 0 0 rfl (by kernel_rfl)) ok0))), ?_⟩
  refine GoR.eqAgg rfl (by kernel_rfl) (b := true) (t := 56) (xs := ReqV.cells (reqOf c)) (ys := ReqV.cells (⟨q.client, q.time, ⟨q.op.kind, q.op.key, q.op.value, q.op.old, q.op.dest, q.op.amount⟩, #v[0, 0, 0, 0, 0, 0, 0, 0, 0, 0, 0, 0, 0, 0, 0, 0, 0, 0, 0, 0, 0, 0, 0, 0, 0, 0, 0, 0, 0, 0, 0, 0]⟩ : ReqV)) (m := 3) (by kernel_rfl) (by kernel_rfl) (by decide) (by kernel_rfl) (r := decide (reqOf c = (⟨q.client, q.time, ⟨q.op.kind, q.op.key, q.op.value, q.op.old, q.op.dest, q.op.amount⟩, #v[0, 0, 0, 0, 0, 0, 0, 0, 0, 0, 0, 0, 0, 0, 0, 0, 0, 0, 0, 0, 0, 0, 0, 0, 0, 0, 0, 0, 0, 0, 0, 0]⟩ : ReqV))) (aggEq  (reqEq (reqOf c) (⟨q.client, q.time, ⟨q.op.kind, q.op.key, q.op.value, q.op.old, q.op.dest, q.op.amount⟩, #v[0, 0, 0, 0, 0, 0, 0, 0, 0, 0, 0, 0, 0, 0, 0, 0, 0, 0, 0, 0, 0, 0, 0, 0, 0, 0, 0, 0, 0, 0, 0, 0]⟩ : ReqV))) ?_
  refine Xk [(4, .gen [])] [] [(4, .bool (decide (reqOf c = (⟨q.client, q.time, ⟨q.op.kind, q.op.key, q.op.value, q.op.old, q.op.dest, q.op.amount⟩, #v[0, 0, 0, 0, 0, 0, 0, 0, 0, 0, 0, 0, 0, 0, 0, 0, 0, 0, 0, 0, 0, 0, 0, 0, 0, 0, 0, 0, 0, 0, 0, 0]⟩ : ReqV))))] ak0 ?_
  refine GoR.done (GoQ.thn (GoC.ret ?_))
  refine X1 (v := .bool (decide (reqOf c = (⟨q.client, q.time, ⟨q.op.kind, q.op.key, q.op.value, q.op.old, q.op.dest, q.op.amount⟩, #v[0, 0, 0, 0, 0, 0, 0, 0, 0, 0, 0, 0, 0, 0, 0, 0, 0, 0, 0, 0, 0, 0, 0, 0, 0, 0, 0, 0, 0, 0, 0, 0]⟩ : ReqV)))) ?_
  have hs15 : St w0 (L) w14 := hs12.drop 2
  exact ⟨(congrArg Value.bool (of_eq c q _ rfl)), hs15⟩
end Go.Proofs.YtbmmknchcdhefaaGreatDoor
