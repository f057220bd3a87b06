/-
  A client of 3, 5, 7, 9 or 11 replicas, at each stage of one request, by the reckoner; flat structs. Conditions: what ratchet/sha.table holds.
-/
import Derived.Test.YtnhjlddkmakfbaaDoorPtX
import Derived.Test.YtnhjlddkmakfbaaDoorSxV
import Derived.Test.YtnhjlddkmakfbaaDoorSxH
import Derived.Test.YtnhjlddkmakfbaaDoorSxI
import Derived.Test.YtnhjlddkmakfbaaDoorSxN
import Derived.Test.YtnhjlddkmakfbaaDoorSxO
namespace Go.Proofs.YtnhjlddkmakfbaaDoor
open Go.RowKit Go.Sx Go.Ev
set_option linter.unusedVariables false
set_option linter.unusedSimpArgs false
set_option linter.unnecessarySimpa false
set_option maxRecDepth 100000
structure RepV where
  err : Int
  value : ByteArray
deriving DecidableEq
def RepV.cells (o : RepV) : Array Value := #[.int .i64 o.err, .string o.value]
structure ToldV where
  client : Int
  time : Int
  reply : RepV
  moment : Int
deriving DecidableEq
def ToldV.cells (o : ToldV) : Array Value := #[.int .i64 o.client, .int .u64 o.time, .int .i64 o.reply.err, .string o.reply.value, .int .u64 o.moment]
theorem int_beq (a b : Int) : (a == b) = decide (a = b) := rfl
theorem tolEq (a b : ToldV) : eqFlat Tryd.prog 3 42 (.agg a.cells) (.agg b.cells) = decide (a = b) := by
  have h : eqFlat Tryd.prog 3 42 (.agg a.cells) (.agg b.cells) = (a.client == b.client && (a.time == b.time && ((a.reply.err == b.reply.err && ((a.reply.value.toList == b.reply.value.toList) && true)) && (a.moment == b.moment && true)))) := by kernel_rfl
  rw [h, strEq, int_beq, int_beq, int_beq, int_beq]
  obtain ⟨a1, a2, ⟨a3, a4⟩, a5⟩ := a
  obtain ⟨b1, b2, ⟨b3, b4⟩, b5⟩ := b
  simp only [ToldV.mk.injEq, RepV.mk.injEq, Bool.decide_and, Bool.and_true]
abbrev ekI : Int → Value := fun k => .int .i64 k
abbrev evT : ToldV → Value := fun t => .agg (ToldV.cells t)
theorem mapLaw : MapLaw Tryd.prog 52 ekI evT 3 42 :=
  ⟨by kernel_rfl, ⟨.int .i64, by kernel_rfl, fun a b => by simp [Instr.sameNow, ekI, int_beq], .inl ⟨_, rfl⟩⟩, fun a => by simp [Instr.sameBits, ekI], fun em a w => rfl⟩
/-! The client's cells. -/
def reqA : List AV := [.num .i64 3, .num .u64 1, .num .u8 1, .flat (.string ⟨#[97]⟩), .flat (.string ⟨#[]⟩), .flat (.string ⟨#[]⟩), .flat (.string ⟨#[]⟩), .num .u64 0, .num .u8 77, .num .u8 241, .num .u8 252, .num .u8 5, .num .u8 141, .num .u8 83, .num .u8 197, .num .u8 214, .num .u8 27, .num .u8 100, .num .u8 37, .num .u8 144, .num .u8 182, .num .u8 162, .num .u8 110, .num .u8 63, .num .u8 180, .num .u8 224, .num .u8 203, .num .u8 36, .num .u8 221, .num .u8 4, .num .u8 51, .num .u8 224, .num .u8 98, .num .u8 221, .num .u8 148, .num .u8 194, .num .u8 117, .num .u8 23, .num .u8 84, .num .u8 195]
def req0 : List AV := [.num .i64 0, .num .u64 0, .num .u8 0, .flat (.string ⟨#[]⟩), .flat (.string ⟨#[]⟩), .flat (.string ⟨#[]⟩), .flat (.string ⟨#[]⟩), .num .u64 0, .num .u8 0, .num .u8 0, .num .u8 0, .num .u8 0, .num .u8 0, .num .u8 0, .num .u8 0, .num .u8 0, .num .u8 0, .num .u8 0, .num .u8 0, .num .u8 0, .num .u8 0, .num .u8 0, .num .u8 0, .num .u8 0, .num .u8 0, .num .u8 0, .num .u8 0, .num .u8 0, .num .u8 0, .num .u8 0, .num .u8 0, .num .u8 0, .num .u8 0, .num .u8 0, .num .u8 0, .num .u8 0, .num .u8 0, .num .u8 0, .num .u8 0, .num .u8 0]
abbrev reqV : Array Value := #[.int .i64 3, .int .u64 1, .int .u8 1, .string ⟨#[97]⟩, .string ⟨#[]⟩, .string ⟨#[]⟩, .string ⟨#[]⟩, .int .u64 0, .int .u8 77, .int .u8 241, .int .u8 252, .int .u8 5, .int .u8 141, .int .u8 83, .int .u8 197, .int .u8 214, .int .u8 27, .int .u8 100, .int .u8 37, .int .u8 144, .int .u8 182, .int .u8 162, .int .u8 110, .int .u8 63, .int .u8 180, .int .u8 224, .int .u8 203, .int .u8 36, .int .u8 221, .int .u8 4, .int .u8 51, .int .u8 224, .int .u8 98, .int .u8 221, .int .u8 148, .int .u8 194, .int .u8 117, .int .u8 23, .int .u8 84, .int .u8 195]
abbrev req0V : Array Value := #[.int .i64 0, .int .u64 0, .int .u8 0, .string ⟨#[]⟩, .string ⟨#[]⟩, .string ⟨#[]⟩, .string ⟨#[]⟩, .int .u64 0, .int .u8 0, .int .u8 0, .int .u8 0, .int .u8 0, .int .u8 0, .int .u8 0, .int .u8 0, .int .u8 0, .int .u8 0, .int .u8 0, .int .u8 0, .int .u8 0, .int .u8 0, .int .u8 0, .int .u8 0, .int .u8 0, .int .u8 0, .int .u8 0, .int .u8 0, .int .u8 0, .int .u8 0, .int .u8 0, .int .u8 0, .int .u8 0, .int .u8 0, .int .u8 0, .int .u8 0, .int .u8 0, .int .u8 0, .int .u8 0, .int .u8 0, .int .u8 0]
def saidA (b : Bool) : List AV := match b with
  | true => [.bool true, .num .i64 3, .num .u64 1, .num .i64 0, .flat (.string ⟨#[]⟩), .num .u64 1]
  | false => [.bool false, .num .i64 0, .num .u64 0, .num .i64 0, .flat (.string ⟨#[]⟩), .num .u64 0]
def saids : Nat → Nat → List AV
  | 0, _ => []
  | n + 1, 0 => saidA false ++ saids n 0
  | n + 1, j + 1 => saidA true ++ saids n j
def clA (k t : Nat) (p : Bool) (q : List AV) (j : Nat) : List AV := .num .i64 k :: .num .i64 3 :: .num .u64 t :: .bool p :: (q ++ saids 11 j)
def fl : AV → Value
  | .num k n => .int k (.ofNat n)
  | .bool b => .bool b
  | .flat v => v
  | _ => undef
def flB : AV → Bool
  | .num _ _ => true
  | .bool _ => true
  | .flat _ => true
  | _ => false
theorem fl_vals (ν : Nu) : ∀ (l : List AV), l.all flB = true → vals ν l = some (l.map fl)
  | [], _ => rfl
  | a :: l, h => by
    simp only [List.all_cons, Bool.and_eq_true] at h
    have ih := fl_vals ν l h.2
    have ha : a.val ν = some (fl a) := by
      cases a <;> first | rfl | cases h.1 | simp [AV.val, fl]
    exact vals_cons_mk ha ih
def clV (l : List AV) : Array Value := (l.map fl).toArray
/-- Behind j replies; as many as are enough: done. -/
def clJ (k j : Nat) : List AV := bif Nat.beq j ((k - 1) / 2 + 1) then clA k 1 false req0 j else clA k 1 true reqA j
def ksL : List Nat := [3, 5, 7, 9, 11]
noncomputable def celB (f : FuncId) (avs cs : List AV) (r : AV) (cs' : List AV) : Bool :=
  match callK Tryd.prog tabG X1 (execD Tryd.prog tabG plans X1 100000) f avs (M1 cs) with
  | some (r1, m1) => sameR r1 r && (match m1.get 0 with
    | some (.cells c1) => sameAs c1 cs'
    | _ => false)
  | none => false
theorem cel_call {f : FuncId} (hen : enters Tryd.prog f = true) {avs cs cs' : List AV} {r : AV} (h : celB f avs cs r cs' = true) {b : Nat} {T : TypeId} {vs : List Value} {v : Value} (hv : vals (N1 b) avs = some vs) (hr : r.val (N1 b) = some v) (hc : cs.all flB = true) (hc' : cs'.all flB = true) {w w0 : World} {L : List Asn} (hG : GOK tabG w0 L) (hs : St w0 (Cel b (clV cs) T :: L) w) :
    Calls Tryd.prog f vs.toArray w (Ret fun rv w' => rv = v ∧ ∃ T', St w0 (Cel b (clV cs') T' :: L) w') := by
  have hm := ofCel hs (l := cs) (by rw [fl_vals _ cs hc]; simp [clV])
  unfold celB at h
  rw [execD_eq] at h
  cases hcall : callK Tryd.prog tabG X1 (exec Tryd.prog tabG plans X1 100000) f avs (M1 cs) with
  | none => rw [hcall] at h; cases h
  | some q =>
    obtain ⟨r1, m1⟩ := q
    rw [hcall] at h
    simp only [Bool.and_eq_true] at h
    obtain ⟨h1, h2⟩ := h
    refine Calls.ret (callK_sound x1_ok hpl mix 100000 hen hcall hG hv hm) ?_
    rintro v1 w' ⟨ν', k1, k2, k3⟩
    rw [sameR_eq h1, AV.val_mono k1 _ hr] at k2
    cases k2
    refine ⟨rfl, ?_⟩
    split at h2
    · rename_i c1 hg
      have e := sameAs_eq h2
      subst e
      obtain ⟨T', k4⟩ := St.popCel k3 hg (fl_vals _ _ hc') (k1 0 (b, 0) rfl)
      exact ⟨T', k4.tail⟩
    · cases h2
noncomputable def newB (k : Nat) : Bool :=
  match callK Tryd.prog tabG X1 (execD Tryd.prog tabG plans X1 100000) 12 [.num .i64 k, .num .i64 3] ⟨.nil, 0⟩ with
  | some (r1, m1) => sameR r1 (.tup [.ptr 0 0, .num .i64 0]) && (match m1.get 0 with
    | some (.cells c1) => sameAs c1 (clA k 0 false req0 0)
    | _ => false)
  | none => false
theorem new_all : (ksL.all fun k => newB k && (clA k 0 false req0 0).all flB) = true := by kernel_rfl
def askArg : List AV := [.num .u8 1, .flat (.string ⟨#[97]⟩), .flat (.string ⟨#[]⟩), .flat (.string ⟨#[]⟩), .flat (.string ⟨#[]⟩), .num .u64 0]
theorem ask_all : (ksL.all fun k => celB 13 [.ptr 0 0, .agg askArg] (clA k 0 false req0 0) (.tup [.agg reqA, .num .i64 0]) (clJ k 0)) = true := by kernel_rfl
theorem flat_all : (ksL.all fun k => (List.range ((k - 1) / 2 + 2)).all fun j => (clJ k j).all flB) = true := by kernel_rfl
theorem pend_all : (ksL.all fun k => (List.range ((k - 1) / 2 + 1)).all fun j => celB 16 [.ptr 0 0] (clJ k j) (.tup [.agg reqA, .bool true]) (clJ k j)) = true := by kernel_rfl
theorem pendF_all : (ksL.all fun k => celB 16 [.ptr 0 0] (clJ k ((k - 1) / 2 + 1)) (.tup [.agg req0, .bool false]) (clJ k ((k - 1) / 2 + 1))) = true := by kernel_rfl
def toldArg : List AV := [.num .i64 3, .num .u64 1, .num .i64 0, .flat (.string ⟨#[]⟩), .num .u64 1]
theorem hear_all : (ksL.all fun k => (List.range ((k - 1) / 2)).all fun j => celB 17 [.ptr 0 0, .num .i64 (j + 1), .agg toldArg] (clJ k j) (.tup [.agg [.num .i64 0, .flat (.string ⟨#[]⟩)], .bool false]) (clJ k (j + 1))) = true := by kernel_rfl
theorem hearF_all : (ksL.all fun k => celB 17 [.ptr 0 0, .num .i64 ((k - 1) / 2 + 1), .agg toldArg] (clJ k ((k - 1) / 2)) (.tup [.agg [.num .i64 0, .flat (.string ⟨#[]⟩)], .bool true]) (clJ k ((k - 1) / 2 + 1))) = true := by kernel_rfl
theorem flat_at {k j : Nat} (hk : k ∈ ksL) (hj : j < (k - 1) / 2 + 2) : (clJ k j).all flB = true := List.all_eq_true.1 (List.all_eq_true.1 flat_all k hk) j (List.mem_range.2 hj)
section
variable {w w0 : World} {L : List Asn} {k : Nat} {cp : Nat}
/-- A block, of whatever type. -/
def CelE (b : Nat) (cs : Array Value) : Asn :=
  ⟨fun k => k = b, fun w => ∃ (T : TypeId) (fr : Nat × Nat), w.heap[b]? = some (.cells cs T fr) ∧ ∀ i, i < cs.size → ¬ (fr.1 ≤ i ∧ i < fr.2), fun w w' h ⟨T, fr, h1, h2⟩ => ⟨T, fr, (h b rfl).trans h1, h2⟩⟩
theorem toE {b : Nat} {cs : Array Value} {T : TypeId} (hs : St w0 (Cel b cs T :: L) w) : St w0 (CelE b cs :: L) w := St.conv hs (fun ⟨fr, h1, h2⟩ => ⟨T, fr, h1, h2⟩) (fun _ h => h)
theorem ofE {b : Nat} {cs : Array Value} (hs : St w0 (CelE b cs :: L) w) : ∃ T, St w0 (Cel b cs T :: L) w := by
  obtain ⟨T, fr, h1, h2⟩ := hs.holds (CelE b cs) (List.mem_cons_self ..)
  exact ⟨T, St.conv hs (fun _ => ⟨fr, h1, h2⟩) (fun _ h => h)⟩
theorem cliNew_spec (hk : k ∈ ksL) (hG : GOK tabG w0 L) (hs : St w0 L w) : Calls Tryd.prog 12 #[.int .i64 (k : Nat), .int .i64 3] w (Ret fun rv w' => ∃ (cp : Nat), rv = .tuple #[.pointer (some ⟨cp, 0, none⟩), .int .i64 0] ∧ St w0 (CelE cp (clV (clA k 0 false req0 0)) :: L) w') := by
  have h := List.all_eq_true.1 new_all k hk
  simp only [Bool.and_eq_true] at h
  obtain ⟨h, hfl⟩ := h
  unfold newB at h
  rw [execD_eq] at h
  cases hcall : callK Tryd.prog tabG X1 (exec Tryd.prog tabG plans X1 100000) 12 [.num .i64 k, .num .i64 3] ⟨.nil, 0⟩ with
  | none => rw [hcall] at h; cases h
  | some q =>
    obtain ⟨r1, m1⟩ := q
    rw [hcall] at h
    simp only [Bool.and_eq_true] at h
    obtain ⟨h1, h2⟩ := h
    refine Calls.ret (callK_sound (vs := [.int .i64 (k : Nat), .int .i64 3]) x1_ok hpl mix 100000 (by kernel_rfl) hcall hG rfl (Ev.St.start hs)) ?_
    rintro v1 w' ⟨ν', k1, k2, k3⟩
    rw [sameR_eq h1] at k2
    split at h2
    · rename_i c1 hg
      have e := sameAs_eq h2
      subst e
      obtain ⟨p, o, p1, p2, p3⟩ := (memOK k3).at_ 0 _ hg
      have k2' : AV.val ν' (.tup [.ptr 0 0, .num .i64 0]) = some (.tuple #[.pointer (some ⟨p.1, 0, none⟩), .int .i64 0]) := by simp [AV.val, vals, p1]
      rw [k2'] at k2
      cases k2
      obtain ⟨T', k4⟩ := St.popCel k3 hg (fl_vals _ _ hfl) p1
      exact ⟨p.1, rfl, toE k4.tail⟩
    · cases h2
theorem cliAsk_spec (hk : k ∈ ksL) (hG : GOK tabG w0 L) (hs0 : St w0 (CelE cp (clV (clA k 0 false req0 0)) :: L) w) : Calls Tryd.prog 13 #[.pointer (some ⟨cp, 0, none⟩), .agg #[.int .u8 1, .string ⟨#[97]⟩, .string ⟨#[]⟩, .string ⟨#[]⟩, .string ⟨#[]⟩, .int .u64 0]] w (Ret fun rv w' => rv = .tuple #[.agg reqV, .int .i64 0] ∧ St w0 (CelE cp (clV (clJ k 0)) :: L) w') := by
  obtain ⟨T, hs⟩ := ofE hs0
  have h0 := List.all_eq_true.1 new_all k hk
  simp only [Bool.and_eq_true] at h0
  refine Calls.ret (cel_call (vs := [.pointer (some ⟨cp, 0, none⟩), .agg #[.int .u8 1, .string ⟨#[97]⟩, .string ⟨#[]⟩, .string ⟨#[]⟩, .string ⟨#[]⟩, .int .u64 0]]) (v := .tuple #[.agg reqV, .int .i64 0]) (by kernel_rfl) (List.all_eq_true.1 ask_all k hk) (by kernel_rfl) (by kernel_rfl) h0.2 (flat_at hk (by omega)) hG hs) ?_
  rintro v w' ⟨h1, T', h2⟩
  exact ⟨h1, toE h2⟩
theorem cliPend_spec {j : Nat} (hk : k ∈ ksL) (hj : j < (k - 1) / 2 + 1) (hG : GOK tabG w0 L) (hs0 : St w0 (CelE cp (clV (clJ k j)) :: L) w) : Calls Tryd.prog 16 #[.pointer (some ⟨cp, 0, none⟩)] w (Ret fun rv w' => rv = .tuple #[.agg reqV, .bool true] ∧ St w0 (CelE cp (clV (clJ k j)) :: L) w') := by
  obtain ⟨T, hs⟩ := ofE hs0
  refine Calls.ret (cel_call (vs := [.pointer (some ⟨cp, 0, none⟩)]) (v := .tuple #[.agg reqV, .bool true]) (by kernel_rfl) (List.all_eq_true.1 (List.all_eq_true.1 pend_all k hk) j (List.mem_range.2 hj)) (by kernel_rfl) (by kernel_rfl) (flat_at hk (by omega)) (flat_at hk (by omega)) hG hs) ?_
  rintro v w' ⟨h1, T', h2⟩
  exact ⟨h1, toE h2⟩
theorem cliPendF_spec (hk : k ∈ ksL) (hG : GOK tabG w0 L) (hs0 : St w0 (CelE cp (clV (clJ k ((k - 1) / 2 + 1))) :: L) w) : Calls Tryd.prog 16 #[.pointer (some ⟨cp, 0, none⟩)] w (Ret fun rv w' => rv = .tuple #[.agg req0V, .bool false] ∧ St w0 (CelE cp (clV (clJ k ((k - 1) / 2 + 1))) :: L) w') := by
  obtain ⟨T, hs⟩ := ofE hs0
  refine Calls.ret (cel_call (vs := [.pointer (some ⟨cp, 0, none⟩)]) (v := .tuple #[.agg req0V, .bool false]) (by kernel_rfl) (List.all_eq_true.1 pendF_all k hk) (by kernel_rfl) (by kernel_rfl) (flat_at hk (by omega)) (flat_at hk (by omega)) hG hs) ?_
  rintro v w' ⟨h1, T', h2⟩
  exact ⟨h1, toE h2⟩
theorem cliHear_spec {j : Nat} (hk : k ∈ ksL) (hj : j < (k - 1) / 2) (hG : GOK tabG w0 L) (hs0 : St w0 (CelE cp (clV (clJ k j)) :: L) w) : Calls Tryd.prog 17 #[.pointer (some ⟨cp, 0, none⟩), .int .i64 ((j + 1 : Nat) : Int), .agg #[.int .i64 3, .int .u64 1, .int .i64 0, .string ⟨#[]⟩, .int .u64 1]] w (Ret fun rv w' => rv = .tuple #[.agg #[.int .i64 0, .string ⟨#[]⟩], .bool false] ∧ St w0 (CelE cp (clV (clJ k (j + 1))) :: L) w') := by
  obtain ⟨T, hs⟩ := ofE hs0
  refine Calls.ret (cel_call (vs := [.pointer (some ⟨cp, 0, none⟩), .int .i64 ((j + 1 : Nat) : Int), .agg #[.int .i64 3, .int .u64 1, .int .i64 0, .string ⟨#[]⟩, .int .u64 1]]) (v := .tuple #[.agg #[.int .i64 0, .string ⟨#[]⟩], .bool false]) (by kernel_rfl) (List.all_eq_true.1 (List.all_eq_true.1 hear_all k hk) j (List.mem_range.2 hj)) (by kernel_rfl) (by kernel_rfl) (flat_at hk (by omega)) (flat_at hk (by omega)) hG hs) ?_
  rintro v w' ⟨h1, T', h2⟩
  exact ⟨h1, toE h2⟩
theorem cliHearF_spec (hk : k ∈ ksL) (hG : GOK tabG w0 L) (hs0 : St w0 (CelE cp (clV (clJ k ((k - 1) / 2))) :: L) w) : Calls Tryd.prog 17 #[.pointer (some ⟨cp, 0, none⟩), .int .i64 (((k - 1) / 2 + 1 : Nat) : Int), .agg #[.int .i64 3, .int .u64 1, .int .i64 0, .string ⟨#[]⟩, .int .u64 1]] w (Ret fun rv w' => rv = .tuple #[.agg #[.int .i64 0, .string ⟨#[]⟩], .bool true] ∧ St w0 (CelE cp (clV (clJ k ((k - 1) / 2 + 1))) :: L) w') := by
  obtain ⟨T, hs⟩ := ofE hs0
  refine Calls.ret (cel_call (vs := [.pointer (some ⟨cp, 0, none⟩), .int .i64 (((k - 1) / 2 + 1 : Nat) : Int), .agg #[.int .i64 3, .int .u64 1, .int .i64 0, .string ⟨#[]⟩, .int .u64 1]]) (v := .tuple #[.agg #[.int .i64 0, .string ⟨#[]⟩], .bool true]) (by kernel_rfl) (List.all_eq_true.1 hearF_all k hk) (by kernel_rfl) (by kernel_rfl) (flat_at hk (by omega)) (flat_at hk (by omega)) hG hs) ?_
  rintro v w' ⟨h1, T', h2⟩
  exact ⟨h1, toE h2⟩
end
end Go.Proofs.YtnhjlddkmakfbaaDoor
