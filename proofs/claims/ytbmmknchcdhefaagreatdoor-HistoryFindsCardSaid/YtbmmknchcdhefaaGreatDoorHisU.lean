/-
  Calls that clients make one at a time, answered by one order: what they are, and that they fit. Conditions: none beside each theorem's own.
-/
import Derived.Test.YtbmmknchcdhefaaGreatDoorHisQ
namespace Go.Proofs.YtbmmknchcdhefaaGreatDoor
open Go.RowKit Go.Sx
set_option linter.unusedVariables false
set_option linter.unusedSimpArgs false
set_option maxRecDepth 100000
structure AskV where
  client : Int
  op : OpV
  late : Int
  open_ : Bool
deriving DecidableEq
abbrev dAsk : AskV := ⟨0, dOp, 0, false⟩
structure MS where
  calls : List CallV
  row : List ReqV
  times : List Int
  free : List Int
def mC (a : AskV) : Nat := (a.client % 3).toNat
def mFrom (i : Nat) : Int := 10 * (i : Int) + 10
def mTo (i : Nat) (a : AskV) : Int := mFrom i + 5 + 10 * (a.late % 4)
def mBusy (s : MS) (i : Nat) (a : AskV) : Bool := decide (s.free.getD (mC a) 0 > mFrom i) || (s.free.getD (mC a) 0 == 1)
def mReq (s : MS) (a : AskV) : ReqV := ⟨(mC a : Int) + 1, s.times.getD (mC a) 0 + 1, a.op, #v[0, 0, 0, 0, 0, 0, 0, 0, 0, 0, 0, 0, 0, 0, 0, 0, 0, 0, 0, 0, 0, 0, 0, 0, 0, 0, 0, 0, 0, 0, 0, 0]⟩
def mRep (s : MS) (a : AskV) : RepV := (sdo (trun s.row).1 (trun s.row).2 (mReq s a)).1.1
def mCall (s : MS) (i : Nat) (a : AskV) : CallV :=
  if a.open_ = true then ⟨(mC a : Int) + 1, s.times.getD (mC a) 0 + 1, a.op, mFrom i, 0, false, ⟨0, ⟨#[]⟩⟩⟩
  else ⟨(mC a : Int) + 1, s.times.getD (mC a) 0 + 1, a.op, mFrom i, mTo i a, true, mRep s a⟩
def mstep (s : MS) (i : Nat) (a : AskV) : MS :=
  if mBusy s i a = true then s
  else ⟨s.calls ++ [mCall s i a], s.row ++ [mReq s a], s.times.set (mC a) (s.times.getD (mC a) 0 + 1), s.free.set (mC a) (if a.open_ = true then 1 else mTo i a + 1)⟩
def mrun (l : List AskV) : Nat → MS
  | 0 => ⟨[], [], [0, 0, 0], [0, 0, 0]⟩
  | k + 1 => mstep (mrun l k) k (l.getD k dAsk)
theorem getD_set {α : Type} {l : List α} {d v : α} {i j : Nat} (hi : i < l.length) : (l.set i v).getD j d = if i = j then v else l.getD j d := by
  rw [List.getD_eq_getElem?_getD, List.getElem?_set]
  by_cases h : i = j
  · rw [if_pos h, if_pos h, if_pos hi]; rfl
  · rw [if_neg h, if_neg h, List.getD_eq_getElem?_getD]
theorem sdo_new {s : TS} {q : ReqV} (h : TInv s) (hv : Valid q) (ht : (s.1.getD (ix q) dLast).time < q.time) : sdo s.1 s.2 q = (((ldo s.2 q.op).1, true), s.1.set (ix q) ⟨q.time, (ldo s.2 q.op).1⟩, (ldo s.2 q.op).2) := by
  rw [sdo_form h.len, if_pos hv, if_neg (by omega), if_neg (by omega)]
theorem trun_app (r : List ReqV) (q : ReqV) : trun (r ++ [q]) = (sdo (trun r).1 (trun r).2 q).2 := by
  unfold trun tfrom
  rw [List.foldl_append]
  rfl
theorem stepS_app {r : List ReqV} {q : ReqV} {j : Nat} (h : j < r.length) : stepS (r ++ [q]) j = stepS r j := by
  unfold stepS
  rw [getD_app, if_pos h, List.take_append_of_le_length (by omega)]
theorem stepS_last (r : List ReqV) (q : ReqV) : stepS (r ++ [q]) r.length = sdo (trun r).1 (trun r).2 q := by
  unfold stepS
  rw [getD_app, if_neg (by omega), Nat.sub_self, List.take_append_of_le_length (by omega), List.take_length]
  rfl
structure MI (s : MS) (k : Nat) : Prop where
  len : s.calls.length = s.row.length
  lk : s.row.length ≤ k
  lt : s.times.length = 3
  lf : s.free.length = 3
  tn : ∀ c, c < 3 → 0 ≤ s.times.getD c 0 ∧ s.times.getD c 0 ≤ k
  fn : ∀ c, c < 3 → 0 ≤ s.free.getD c 0 ∧ s.free.getD c 0 ≤ 10 * k + 46
  of : ∀ j, j < s.row.length → ofB (s.calls.getD j dCall) (s.row.getD j dReq) = true
  cl : ∀ j, j < s.row.length → ∃ c : Nat, c < 3 ∧ (s.row.getD j dReq).client = (c : Int) + 1 ∧ (s.row.getD j dReq).time ≤ s.times.getD c 0
  inc : ∀ i j, i < j → j < s.row.length → (s.row.getD i dReq).client = (s.row.getD j dReq).client → (s.row.getD i dReq).time < (s.row.getD j dReq).time
  frm : ∀ i j, i < j → j < s.row.length → (s.calls.getD i dCall).from_ ≤ (s.calls.getD j dCall).from_
  frk : ∀ j, j < s.row.length → (s.calls.getD j dCall).from_ ≤ 10 * k
  to : ∀ j, j < s.row.length → (s.calls.getD j dCall).done = true → (s.calls.getD j dCall).from_ + 5 ≤ (s.calls.getD j dCall).to_
  seq : ∀ i j, i < j → j < s.row.length → (s.row.getD i dReq).client = (s.row.getD j dReq).client → (s.calls.getD i dCall).done = true ∧ (s.calls.getD i dCall).to_ < (s.calls.getD j dCall).from_
  busy : ∀ j, j < s.row.length → ∀ c : Nat, c < 3 → (s.row.getD j dReq).client = (c : Int) + 1 → s.free.getD c 0 = 1 ∨ ((s.calls.getD j dCall).done = true ∧ (s.calls.getD j dCall).to_ + 1 ≤ s.free.getD c 0)
  tab : ∀ c, c < 3 → ((trun s.row).1.getD c dLast).time = s.times.getD c 0
  don : ∀ j, j < s.row.length → (stepS s.row j).1.2 = true
  rep : ∀ j, j < s.row.length → (s.calls.getD j dCall).done = true → (stepS s.row j).1.1 = (s.calls.getD j dCall).reply
theorem mC_lt {a : AskV} (h : 0 ≤ a.client) : mC a < 3 := by unfold mC; omega
theorem MI.zero (l : List AskV) : MI (mrun l 0) 0 := by
  have h3 : ∀ c, c < 3 → ([0, 0, 0] : List Int).getD c 0 = 0 := fun c hc => by
    match c, hc with
    | 0, _ => rfl
    | 1, _ => rfl
    | 2, _ => rfl
  refine ⟨rfl, Nat.le_refl _, rfl, rfl, fun c hc => ?_, fun c hc => ?_, ?_, ?_, ?_, ?_, ?_, ?_, ?_, ?_, fun c hc => ?_, ?_, ?_⟩
  · show 0 ≤ ([0, 0, 0] : List Int).getD c 0 ∧ ([0, 0, 0] : List Int).getD c 0 ≤ ((0 : Nat) : Int)
    rw [h3 c hc]; decide
  · show 0 ≤ ([0, 0, 0] : List Int).getD c 0 ∧ ([0, 0, 0] : List Int).getD c 0 ≤ 10 * ((0 : Nat) : Int) + 46
    rw [h3 c hc]; decide
  all_goals first
    | exact fun j hj => absurd hj (Nat.not_lt_zero _)
    | exact fun i j _ hj => absurd hj (Nat.not_lt_zero _)
    | skip
  show ((List.replicate 8 dLast).getD c dLast).time = ([0, 0, 0] : List Int).getD c 0
  rw [h3 c hc]
  match c, hc with
  | 0, _ => rfl
  | 1, _ => rfl
  | 2, _ => rfl
section
variable {s : MS} {k : Nat} {a : AskV}
theorem MI.sdo (h : MI s k) (ha : 0 ≤ a.client) : sdo (trun s.row).1 (trun s.row).2 (mReq s a) = (((ldo (trun s.row).2 a.op).1, true), (trun s.row).1.set (mC a) ⟨s.times.getD (mC a) 0 + 1, (ldo (trun s.row).2 a.op).1⟩, (ldo (trun s.row).2 a.op).2) := by
  have hc := mC_lt ha
  have ht := h.tn _ hc
  have hix : ix (mReq s a) = mC a := by unfold ix mReq; simp only; omega
  have hv : Valid (mReq s a) := ⟨by show (1 : Int) ≤ (mC a : Int) + 1; omega, by show (mC a : Int) + 1 ≤ 8; omega, by show s.times.getD (mC a) 0 + 1 ≠ 0; omega⟩
  have := sdo_new (s := trun s.row) (q := mReq s a) (trun_inv _) hv (by rw [hix, h.tab _ hc]; show _ < s.times.getD (mC a) 0 + 1; omega)
  rw [hix] at this
  exact this
theorem mCall_of (s : MS) (k : Nat) (a : AskV) : ofB (mCall s k a) (mReq s a) = true := by
  unfold mCall
  split <;> exact decide_eq_true ⟨rfl, rfl, rfl⟩
theorem mCall_from (s : MS) (k : Nat) (a : AskV) : (mCall s k a).from_ = mFrom k := by unfold mCall; split <;> rfl
theorem MI.step (h : MI s k) (ha : 0 ≤ a.client) (hl : 0 ≤ a.late) : MI (mstep s k a) (k + 1) := by
  have hc := mC_lt ha
  unfold mstep
  by_cases hb : mBusy s k a = true
  · rw [if_pos hb]
    exact ⟨h.len, Nat.le_succ_of_le h.lk, h.lt, h.lf, fun c hc => by have := h.tn c hc; omega, fun c hc => by have := h.fn c hc; omega, h.of, h.cl, h.inc, h.frm, fun j hj => by have := h.frk j hj; omega, h.to, h.seq, h.busy, h.tab, h.don, h.rep⟩
  · rw [if_neg hb]
    unfold mBusy at hb
    simp only [Bool.or_eq_true, decide_eq_true_eq, beq_iff_eq, not_or] at hb
    obtain ⟨hb1, hb2⟩ := hb
    have hfk : mFrom k = 10 * (k : Int) + 10 := rfl
    have hfn := h.fn _ hc
    have htn := h.tn _ hc
    have hto : mFrom k + 5 ≤ mTo k a ∧ mTo k a ≤ mFrom k + 35 := by unfold mTo; omega
    have hs := h.sdo ha
    have hlen := h.len
    have hdone : (mCall s k a).done = true → (mCall s k a).to_ = mTo k a ∧ a.open_ = false ∧ (mCall s k a).reply = mRep s a := fun hd => by
      unfold mCall at hd ⊢
      by_cases ho : a.open_ = true
      · rw [if_pos ho] at hd; cases hd
      · rw [if_neg ho]; exact ⟨rfl, Bool.eq_false_iff.2 ho, rfl⟩
    have hopen : a.open_ = false → (mCall s k a).done = true := fun ho => by
      unfold mCall
      rw [if_neg (ne_true_of_eq_false ho)]
    have hg : ∀ j, j < s.row.length → (s.row ++ [mReq s a]).getD j dReq = s.row.getD j dReq := fun j hj => by rw [getD_app, if_pos hj]
    have hgl : (s.row ++ [mReq s a]).getD s.row.length dReq = mReq s a := by rw [getD_app, if_neg (by omega), Nat.sub_self]; rfl
    have hk : ∀ j, j < s.row.length → (s.calls ++ [mCall s k a]).getD j dCall = s.calls.getD j dCall := fun j hj => by rw [getD_app, if_pos (by omega)]
    have hkl : (s.calls ++ [mCall s k a]).getD s.row.length dCall = mCall s k a := by rw [getD_app, hlen, if_neg (by omega), Nat.sub_self]; rfl
    have hj2 : ∀ {j : Nat}, j < (s.row ++ [mReq s a]).length → j < s.row.length ∨ j = s.row.length := fun {j} hj => by
      rw [List.length_append] at hj
      simp only [List.length_cons, List.length_nil] at hj
      omega
    have hT : ∀ c, (s.times.set (mC a) (s.times.getD (mC a) 0 + 1)).getD c 0 = if mC a = c then s.times.getD (mC a) 0 + 1 else s.times.getD c 0 := fun c => getD_set (by rw [h.lt]; exact hc)
    have hF : ∀ c, (s.free.set (mC a) (if a.open_ = true then 1 else mTo k a + 1)).getD c 0 = if mC a = c then (if a.open_ = true then 1 else mTo k a + 1) else s.free.getD c 0 := fun c => getD_set (by rw [h.lf]; exact hc)
    have hcl : (mReq s a).client = (mC a : Int) + 1 := rfl
    have htm : (mReq s a).time = s.times.getD (mC a) 0 + 1 := rfl
    have hprev : ∀ j, j < s.row.length → (s.row.getD j dReq).client = (mC a : Int) + 1 → (s.row.getD j dReq).time ≤ s.times.getD (mC a) 0 := fun j hj hx => by
      obtain ⟨c, h1, h2, h3⟩ := h.cl j hj
      have : c = mC a := by omega
      subst this
      exact h3
    refine ⟨?_, ?_, ?_, ?_, fun c hc' => ?_, fun c hc' => ?_, fun j hj => ?_, fun j hj => ?_, fun i j hij hj hn => ?_, fun i j hij hj => ?_, fun j hj => ?_, fun j hj hd => ?_, fun i j hij hj hn => ?_, fun j hj c hc' hn => ?_, fun c hc' => ?_, fun j hj => ?_, fun j hj hd => ?_⟩
    · show (s.calls ++ [mCall s k a]).length = (s.row ++ [mReq s a]).length
      rw [List.length_append, List.length_append, h.len]; rfl
    · show (s.row ++ [mReq s a]).length ≤ k + 1
      rw [List.length_append]
      have := h.lk
      simp only [List.length_cons, List.length_nil]; omega
    · show (s.times.set _ _).length = 3
      rw [List.length_set, h.lt]
    · show (s.free.set _ _).length = 3
      rw [List.length_set, h.lf]
    · show 0 ≤ (s.times.set (mC a) (s.times.getD (mC a) 0 + 1)).getD c 0 ∧ (s.times.set (mC a) (s.times.getD (mC a) 0 + 1)).getD c 0 ≤ ((k + 1 : Nat) : Int)
      rw [hT]
      have := h.tn c hc'
      split <;> omega
    · show 0 ≤ (s.free.set (mC a) (if a.open_ = true then 1 else mTo k a + 1)).getD c 0 ∧ (s.free.set (mC a) (if a.open_ = true then 1 else mTo k a + 1)).getD c 0 ≤ 10 * ((k + 1 : Nat) : Int) + 46
      rw [hF]
      have := h.fn c hc'
      split
      · split <;> omega
      · omega
    · show ofB ((s.calls ++ [mCall s k a]).getD j dCall) ((s.row ++ [mReq s a]).getD j dReq) = true
      rcases hj2 hj with h1 | rfl
      · rw [hg j h1, hk j h1]; exact h.of j h1
      · rw [hgl, hkl]; exact mCall_of s k a
    · show ∃ c : Nat, c < 3 ∧ ((s.row ++ [mReq s a]).getD j dReq).client = (c : Int) + 1 ∧ ((s.row ++ [mReq s a]).getD j dReq).time ≤ (s.times.set (mC a) (s.times.getD (mC a) 0 + 1)).getD c 0
      rcases hj2 hj with h1 | rfl
      · obtain ⟨c, h2, h3, h4⟩ := h.cl j h1
        refine ⟨c, h2, by rw [hg j h1]; exact h3, ?_⟩
        rw [hg j h1, hT]
        split
        · rename_i he; subst he; omega
        · exact h4
      · refine ⟨mC a, hc, by rw [hgl]; exact hcl, ?_⟩
        rw [hgl, hT, if_pos rfl, htm]
        omega
    · show ((s.row ++ [mReq s a]).getD i dReq).time < ((s.row ++ [mReq s a]).getD j dReq).time
      have hn' : ((s.row ++ [mReq s a]).getD i dReq).client = ((s.row ++ [mReq s a]).getD j dReq).client := hn
      rcases hj2 hj with h1 | rfl
      · rw [hg j h1, hg i (by omega)] at hn' ⊢
        exact h.inc i j hij h1 hn'
      · rw [hgl, hg i hij] at hn' ⊢
        have := hprev i hij hn'
        rw [htm]; omega
    · show ((s.calls ++ [mCall s k a]).getD i dCall).from_ ≤ ((s.calls ++ [mCall s k a]).getD j dCall).from_
      rcases hj2 hj with h1 | rfl
      · rw [hk j h1, hk i (by omega)]; exact h.frm i j hij h1
      · rw [hkl, hk i hij, mCall_from]
        have := h.frk i hij
        omega
    · show ((s.calls ++ [mCall s k a]).getD j dCall).from_ ≤ 10 * ((k + 1 : Nat) : Int)
      rcases hj2 hj with h1 | rfl
      · rw [hk j h1]; have := h.frk j h1; omega
      · rw [hkl, mCall_from]; omega
    · have hd' : ((s.calls ++ [mCall s k a]).getD j dCall).done = true := hd
      show ((s.calls ++ [mCall s k a]).getD j dCall).from_ + 5 ≤ ((s.calls ++ [mCall s k a]).getD j dCall).to_
      rcases hj2 hj with h1 | rfl
      · rw [hk j h1] at hd' ⊢; exact h.to j h1 hd'
      · rw [hkl] at hd' ⊢
        rw [(hdone hd').1, mCall_from]; exact hto.1
    · have hn' : ((s.row ++ [mReq s a]).getD i dReq).client = ((s.row ++ [mReq s a]).getD j dReq).client := hn
      show ((s.calls ++ [mCall s k a]).getD i dCall).done = true ∧ ((s.calls ++ [mCall s k a]).getD i dCall).to_ < ((s.calls ++ [mCall s k a]).getD j dCall).from_
      rcases hj2 hj with h1 | rfl
      · rw [hg j h1, hg i (by omega)] at hn'
        rw [hk j h1, hk i (by omega)]
        exact h.seq i j hij h1 hn'
      · rw [hgl, hg i hij] at hn'
        rw [hkl, hk i hij, mCall_from]
        rcases h.busy i hij _ hc hn' with h2 | ⟨h2, h3⟩
        · exact absurd h2 hb2
        · exact ⟨h2, by omega⟩
    · have hn' : ((s.row ++ [mReq s a]).getD j dReq).client = (c : Int) + 1 := hn
      show (s.free.set (mC a) (if a.open_ = true then 1 else mTo k a + 1)).getD c 0 = 1 ∨ ((s.calls ++ [mCall s k a]).getD j dCall).done = true ∧ ((s.calls ++ [mCall s k a]).getD j dCall).to_ + 1 ≤ (s.free.set (mC a) (if a.open_ = true then 1 else mTo k a + 1)).getD c 0
      rw [hF]
      rcases hj2 hj with h1 | rfl
      · rw [hg j h1] at hn'
        rw [hk j h1]
        by_cases he : mC a = c
        · subst he
          rw [if_pos rfl]
          by_cases ho : a.open_ = true
          · rw [if_pos ho]; exact .inl rfl
          · rw [if_neg ho]
            rcases h.busy j h1 _ hc hn' with h2 | ⟨h2, h3⟩
            · exact absurd h2 hb2
            · exact .inr ⟨h2, by omega⟩
        · rw [if_neg he]
          exact h.busy j h1 c hc' hn'
      · rw [hgl, hcl] at hn'
        have he : mC a = c := by omega
        rw [if_pos he, hkl]
        by_cases ho : a.open_ = true
        · rw [if_pos ho]; exact .inl rfl
        · rw [if_neg ho]
          have hd := hopen (Bool.eq_false_iff.2 ho)
          exact .inr ⟨hd, by rw [(hdone hd).1]; omega⟩
    · show ((trun (s.row ++ [mReq s a])).1.getD c dLast).time = (s.times.set (mC a) (s.times.getD (mC a) 0 + 1)).getD c 0
      rw [trun_app, hs, hT]
      show (((trun s.row).1.set (mC a) ⟨s.times.getD (mC a) 0 + 1, (ldo (trun s.row).2 a.op).1⟩).getD c dLast).time = _
      rw [getD_set (by rw [(trun_inv s.row).len]; omega)]
      split
      · rfl
      · exact h.tab c hc'
    · show (stepS (s.row ++ [mReq s a]) j).1.2 = true
      rcases hj2 hj with h1 | rfl
      · rw [stepS_app h1]; exact h.don j h1
      · rw [stepS_last, hs]
    · have hd' : ((s.calls ++ [mCall s k a]).getD j dCall).done = true := hd
      show (stepS (s.row ++ [mReq s a]) j).1.1 = ((s.calls ++ [mCall s k a]).getD j dCall).reply
      rcases hj2 hj with h1 | rfl
      · rw [hk j h1] at hd' ⊢
        rw [stepS_app h1]; exact h.rep j h1 hd'
      · rw [hkl] at hd' ⊢
        rw [stepS_last, (hdone hd').2.2]
        rfl
end
theorem mrun_inv {l : List AskV} (hl : ∀ a ∈ l, 0 ≤ a.client ∧ 0 ≤ a.late) : ∀ {k : Nat}, k ≤ l.length → MI (mrun l k) k
  | 0, _ => MI.zero l
  | k + 1, hk => by
    have hq := hl _ (getD_mem (d := dAsk) (show k < l.length from hk))
    exact (mrun_inv hl (by omega)).step hq.1 hq.2
theorem MI.fit {s : MS} {k : Nat} (h : MI s k) : Fit s.calls s.row where
  len := h.len
  of j hj := h.of j (by rw [← h.len]; exact hj)
  dist i j hij hj hn := by
    have h1 := congrArg NameV.cl hn
    have h2 := congrArg NameV.tm hn
    have h3 := h.inc i j hij hj h1
    have h4 : (s.row.getD i dReq).time = (s.row.getD j dReq).time := h2
    omega
  over i j hi hj := by
    rw [h.len] at hi hj
    unfold over1
    split
    · rename_i h1
      split
      · rename_i h2
        have hc : (s.calls.getD j dCall).client = (s.calls.getD i dCall).client := by simpa using h1
        have ht : (s.calls.getD j dCall).time < (s.calls.getD i dCall).time := of_decide_eq_true h2
        have oi := of_decide_eq_true (h.of i hi)
        have oj := of_decide_eq_true (h.of j hj)
        have hc2 : (s.row.getD j dReq).client = (s.row.getD i dReq).client := by rw [← oi.1, ← oj.1]; exact hc
        have ht2 : (s.row.getD j dReq).time < (s.row.getD i dReq).time := by rw [← oi.2.1, ← oj.2.1]; exact ht
        rcases Nat.lt_trichotomy i j with h3 | h3 | h3
        · have := h.inc i j h3 hj hc2.symm
          omega
        · subst h3; omega
        · have h4 := h.seq j i h3 hi hc2
          unfold aheadB
          rw [h4.1, decide_eq_true h4.2]
          rfl
      · rfl
    · rfl
  early i j hij hj := by
    rw [h.len] at hj
    unfold aheadB
    cases hd : (s.calls.getD j dCall).done with
    | false => rfl
    | true =>
      have h1 := h.to j hj hd
      have h2 := h.frm i j hij hj
      rw [Bool.true_and]
      exact decide_eq_false (by omega)
theorem made_right {s : MS} {k : Nat} (h : MI s k) : chkV s.calls s.row = (0, 0) :=
  fit_right h.fit fun j hj hd => ⟨h.don j (by rw [← h.len]; exact hj), h.rep j (by rw [← h.len]; exact hj) hd⟩
theorem Fit.turn {l l' : List CallV} {r : List ReqV} (h : Fit l r) (hl : l'.length = l.length) (hs : ∀ j, ∃ x : RepV, l'.getD j dCall = { l.getD j dCall with reply := x }) : Fit l' r where
  len := hl.trans h.len
  of j hj := by
    obtain ⟨x, hx⟩ := hs j
    rw [hx]
    exact h.of j (by omega)
  dist := h.dist
  over i j hi hj := by
    obtain ⟨x, hx⟩ := hs i
    obtain ⟨y, hy⟩ := hs j
    rw [hx, hy]
    exact h.over i j (by omega) (by omega)
  early i j hij hj := by
    obtain ⟨x, hx⟩ := hs i
    obtain ⟨y, hy⟩ := hs j
    rw [hx, hy]
    exact h.early i j hij (by omega)
end Go.Proofs.YtbmmknchcdhefaaGreatDoor
