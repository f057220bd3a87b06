/-
  Ev, part C: an operation that only reads does what the reckoner says. Proved once, for any program. Conditions: none beside each theorem's own.
-/
import Derived.Test.YtnhjlddkmakfbaaDoorEvB
import Derived.Test.YtnhjlddkmakfbaaDoorSxE
namespace Go.Ev
open Go.Sx
set_option linter.unusedVariables false
set_option linter.unusedSimpArgs false

structure FitsA (ν : Nu) (N : Nat) (S : AE) (a : Act) : Prop where
  defers : a.defers = []
  size : a.tmps.size = N
  at_ : ∀ k x, S.get k = some x → ∃ v, x.val ν = some v ∧ a.tmps.getD k undef = v

def Glob (G : Nat → Option (List Value)) (w : World) : Prop := ∀ g vs, G g = some vs → ∀ i, i < vs.length → w.cell? ⟨g, i, none⟩ = vs[i]?

section
variable {P : Program} {G : Nat → Option (List Value)} {ν : Nu} {N : Nat} {S : AE} {a : Act} {m : AM} {w : World}

theorem FitsA.mono {ν' : Nu} (h : FitsA ν N S a) (hle : ν.le ν') : FitsA ν' N S a :=
  ⟨h.defers, h.size, fun k x hx => by obtain ⟨v, h1, h2⟩ := h.at_ k x hx; exact ⟨v, AV.val_mono hle x h1, h2⟩⟩

theorem FitsA.op (hf : FitsA ν N S a) {x : Operand} {av : AV} (h : opnd S x = some av) : ∃ v, av.val ν = some v ∧ a.eval x = v := by
  cases x with
  | tmp t => exact hf.at_ t av h
  | const c =>
    simp only [opnd, Option.some.injEq] at h
    subst h
    exact ⟨c, lift_val ν c, rfl⟩
  | global g =>
    simp only [opnd, Option.some.injEq] at h
    subst h
    exact ⟨_, rfl, rfl⟩
  | func f =>
    simp only [opnd, Option.some.injEq] at h
    subst h
    exact ⟨_, rfl, rfl⟩

theorem FitsA.ops (hf : FitsA ν N S a) : ∀ {l : List Operand} {avs : List AV}, opnds S l = some avs → vals ν avs = some (l.map a.eval)
  | [], avs, h => by simp only [opnds, Option.some.injEq] at h; subst h; rfl
  | x :: l, avs, h => by
    simp only [opnds] at h
    split at h
    · rename_i b hb
      split at h
      · rename_i bs hbs
        simp only [Option.some.injEq] at h
        subst h
        obtain ⟨v, h1, h2⟩ := hf.op hb
        simp only [List.map_cons, h2]
        exact vals_cons_mk h1 (FitsA.ops hf hbs)
      · cases h
    · cases h

theorem fopnd_eq (hf : FitsA ν N S a) {x : Operand} {av : AV} {v : Value} (h : opnd S x = some av) (hv : flatOf av = some v) : a.eval x = fopnd S x := by
  obtain ⟨u, h1, h2⟩ := hf.op h
  have h3 := flatOf_val (ν := ν) hv
  rw [h1] at h3
  cases h3
  simp only [fopnd, h, hv, h2]

theorem flatOps_eq (hf : FitsA ν N S a) : ∀ {l : List Operand}, flatOps S l = true → ∀ x ∈ l, a.eval x = fopnd S x
  | y :: l, h, x, hx => by
    simp only [flatOps] at h
    split at h
    · rename_i b hb
      split at h
      · rename_i v hv
        rcases List.mem_cons.1 hx with rfl | hx
        · exact fopnd_eq hf hb hv
        · exact flatOps_eq hf h x hx
      · cases h
    · cases h

theorem genOp_sound (hf : FitsA ν N S a) {o : Oper} {av : AV} (h : genOp P S o = some av) (w : World) : ∃ v, av.val ν = some v ∧ (execOp a.eval o).run P w = .ok (.value v) w := by
  unfold genOp at h
  cases hs : isSelect o.op with
  | true => rw [hs] at h; cases h
  | false =>
    rw [hs] at h
    cases hp : flatOps S o.op.operands.toList with
    | false => rw [hp] at h; cases h
    | true =>
      rw [hp] at h
      simp only [cond_true, cond_false] at h
      split at h
      · rename_i ns v hd
        split at h
        · simp only [Option.some.injEq] at h
          subst h
          refine ⟨v, lift_val ν v, ?_⟩
          rw [execOp_congr o (fun cs b e => by rw [e] at hs; simp [isSelect] at hs) fun x hx => flatOps_eq hf hp x (Array.mem_toList_iff.2 hx)]
          exact drive_sound _ _ _ _ hd trivial
        · cases h
      · cases h

theorem orGen_sound (hf : FitsA ν N S a) {o : Oper} {r : Option AV} {av : AV} (h : orGen P S o r = some av) (w : World)
    (hr : r = some av → ∃ v, av.val ν = some v ∧ (execOp a.eval o).run P w = .ok (.value v) w) : ∃ v, av.val ν = some v ∧ (execOp a.eval o).run P w = .ok (.value v) w := by
  unfold orGen at h
  cases r with
  | some b => exact hr (by simpa using h)
  | none => exact genOp_sound hf h w

/-! ### Cells -/
theorem cellsAt_spec (hm : MemOK ν m w) {id : Nat} {cs : List AV} (h : cellsAt m id = some cs) :
    ∃ p vs rest T fr, ν id = some p ∧ vals ν cs = some vs ∧ w.heap[p.1]? = some (.cells (vs ++ rest).toArray T fr) ∧ ∀ i, i < (vs ++ rest).length → ¬ (fr.1 ≤ i ∧ i < fr.2) := by
  unfold cellsAt at h
  split at h
  · rename_i cs' hg
    simp only [Option.some.injEq] at h
    subst h
    obtain ⟨p, o, h1, h2, vs, T, fr, h3, rfl, h4⟩ := hm.at_ id _ hg
    exact ⟨p, vs, [], T, fr, h1, h3, by simpa using h2, by simpa using h4⟩
  · rename_i cs' z hg
    simp only [Option.some.injEq] at h
    subst h
    obtain ⟨p, o, h1, h2, vs, rest, T, fr, h3, rfl, h4, h5⟩ := hm.at_ id _ hg
    exact ⟨p, vs, rest, T, fr, h1, h3, h2, h5.1⟩
  · cases h

/-- What a known cell reads. -/
theorem cell_of {w : World} {b : Nat} {vs rest : List Value} {T : TypeId} {fr : Nat × Nat} (h : w.heap[b]? = some (.cells (vs ++ rest).toArray T fr)) {i : Nat} (hi : i < vs.length) : w.cell? ⟨b, i, none⟩ = vs[i]? := by
  simp only [World.cell?, h]
  simp [List.getElem?_append_left hi]

theorem cut_spec {cs l : List AV} {off n : Nat} (h : cut? cs off n = some l) : off + n ≤ cs.length ∧ l = (cs.drop off).take n := by
  unfold cut? at h
  cases hb : Nat.ble (off + n) cs.length with
  | false => rw [hb] at h; cases h
  | true =>
    rw [hb] at h
    simp only [cond_true, Option.some.injEq] at h
    exact ⟨Nat.le_of_ble_eq_true hb, h.symm⟩

theorem vals_cut {cs l : List AV} {vs : List Value} {off n : Nat} (h : cut? cs off n = some l) (hv : vals ν cs = some vs) : vals ν l = some ((vs.drop off).take n) ∧ off + n ≤ vs.length := by
  obtain ⟨h1, rfl⟩ := cut_spec h
  exact ⟨vals_take n (vals_drop off hv), by rw [vals_length hv]; exact h1⟩

theorem aggSize_some {t : TypeId} {n : Nat} (h : aggSize P t = some (some n)) : (∀ w, (isAgg t).run P w = .ok true w) ∧ ∃ ti, P.info? t = some ti ∧ ti.size = n := by
  unfold aggSize at h
  split at h
  · rename_i fs hu
    cases hi : P.info? t with
    | none => rw [hi] at h; cases h
    | some ti => rw [hi] at h; simp only [Option.some.injEq] at h; exact ⟨fun w => isAgg_struct hu w, ti, rfl, h⟩
  · rename_i k e hu
    cases hi : P.info? t with
    | none => rw [hi] at h; cases h
    | some ti => rw [hi] at h; simp only [Option.some.injEq] at h; exact ⟨fun w => isAgg_array hu w, ti, rfl, h⟩
  · cases h
  · cases h

theorem aggSize_none {t : TypeId} (h : aggSize P t = some none) (w : World) : (isAgg t).run P w = .ok false w := by
  unfold aggSize at h
  split at h
  · split at h <;> cases h
  · split at h <;> cases h
  · rename_i d h1 h2 hu
    simp only [isAgg, Sem.run_bind, run_underlying hu, Result.andThen_ok]
    cases d <;> first | rfl | (exact absurd rfl (h1 _)) | (exact absurd rfl (h2 _ _))
  · cases h

theorem partA_part {t : TypeId} {cs : List AV} {vs : List Value} {off : Nat} {av : AV} (h : partA P t cs off = some av) (hv : vals ν cs = some vs) (w : World) :
    ∃ v, av.val ν = some v ∧ (part t vs.toArray off).run P w = .ok v w := by
  unfold partA at h
  split at h
  · rename_i n hn
    split at h
    · rename_i l hl
      simp only [Option.some.injEq] at h
      subst h
      obtain ⟨h1, ti, h2, h3⟩ := aggSize_some hn
      obtain ⟨h4, h5⟩ := vals_cut hl hv
      refine ⟨.agg ((vs.drop off).take n).toArray, by simp [AV.val, h4], ?_⟩
      simp only [part, Sem.run_bind, h1, Result.andThen_ok, if_true, sizeOf, typeInfo, run_program, h2, Sem.run_pure]
      congr 2
      apply Array.ext'
      rw [Array.toList_extract, List.extract_eq_take_drop]
      simp [h3]
    · cases h
  · rename_i hn
    obtain ⟨v, h1, h2⟩ := vals_get hv h
    refine ⟨v, h1, ?_⟩
    have h3 : vs.toArray[off]? = some v := by simpa using h2
    simp only [part, Sem.run_bind, aggSize_none hn, Result.andThen_ok, Bool.false_eq_true, if_false, h3, Sem.run_pure]
  · cases h

theorem partA_load {t : TypeId} {cs : List AV} {vs : List Value} {off b : Nat} {av : AV} (h : partA P t cs off = some av) (hv : vals ν cs = some vs) {w : World} (hc : ∀ i, i < vs.length → w.cell? ⟨b, i, none⟩ = vs[i]?) :
    ∃ v, av.val ν = some v ∧ (loadVar t ⟨b, off, none⟩).run P w = .ok v w := by
  unfold partA at h
  split at h
  · rename_i n hn
    split at h
    · rename_i l hl
      simp only [Option.some.injEq] at h
      subst h
      obtain ⟨h1, ti, h2, h3⟩ := aggSize_some hn
      obtain ⟨h4, h5⟩ := vals_cut hl hv
      refine ⟨.agg ((vs.drop off).take n).toArray, by simp [AV.val, h4], ?_⟩
      refine run_loadVar_agg h2 h1 _ _ ?_ ?_
      · rw [h3]
        simp only [List.size_toArray, List.length_take, List.length_drop]
        omega
      · intro i hi
        simp only [List.size_toArray, List.length_take, List.length_drop] at hi
        rw [add_mk, hc (off + i) (by omega)]
        simp only [List.getElem?_toArray]
        rw [List.getElem?_take, if_pos (by omega), List.getElem?_drop]
    · cases h
  · rename_i hn
    obtain ⟨v, h1, h2⟩ := vals_get hv h
    refine ⟨v, h1, ?_⟩
    have hlt : off < vs.length := (List.getElem?_eq_some_iff.1 h2).1
    have h3 : w.cell? ⟨b, off, none⟩ = some v := (hc off hlt).trans h2
    simp only [loadVar, Sem.run_bind, aggSize_none hn, Result.andThen_ok, Bool.false_eq_true, if_false]
    simp [load, Sem.run, h3]
  · cases h

theorem loadA_sound (hm : MemOK ν m w) (hG : Glob G w) {t : TypeId} {x av : AV} {u : Value} (hx : x.val ν = some u) (h : loadA P G m t x = some av) : ∃ ad v, u = .pointer (some ad) ∧ av.val ν = some v ∧ (loadVar t ad).run P w = .ok v w := by
  unfold loadA at h
  split at h
  · rename_i id off
    split at h
    · rename_i cs hc
      obtain ⟨p, vs, rest, T, fr, h1, h2, h3, h4⟩ := cellsAt_spec hm hc
      simp only [AV.val, h1, Option.some.injEq] at hx
      subst hx
      obtain ⟨v, h5, h6⟩ := partA_load h h2 (b := p.1) fun i hi => cell_of h3 hi
      exact ⟨_, v, rfl, h5, h6⟩
    · cases h
  · rename_i g off
    simp only [AV.val, Option.some.injEq] at hx
    subst hx
    split at h
    · rename_i vs hg
      obtain ⟨v, h5, h6⟩ := partA_load h (lifts_vals ν vs) (b := g) (fun i hi => hG g vs hg i hi)
      exact ⟨_, v, rfl, h5, h6⟩
    · cases h
  · cases h

theorem run_load {o : Oper} {t : TypeId} {x : Operand} (ho : o.op = .load t x) {ρ : Operand → Value} {ad : Addr} {v : Value} (hx : ρ x = .pointer (some ad)) (h : (loadVar t ad).run P w = .ok v w) : (execOp ρ o).run P w = .ok (.value v) w := by
  simp only [execOp, ho, Instr.loadAt, hx, Instr.sureAddr, Sem.run_bind, Sem.run_pure, Result.andThen_ok, h]

/-! ### Numbers -/
theorem intN_spec {k : IntKind} {n : Nat} {av : AV} (h : intN k n = some av) : av.val ν = some (.int k (k.wrap (n : Int))) := by
  have wr : ∀ (k : IntKind) (z : Int), AV.val ν (.num k z.toNat) = some (.int k (Int.ofNat z.toNat)) := fun _ _ => rfl
  cases k <;> simp only [intN, forceN_eq] at h
  case i8 => cases h
  case i16 => cases h
  case i32 =>
    cases hb : Nat.ble n 2147483647 with
    | false => rw [hb] at h; cases h
    | true =>
      rw [hb] at h
      have h1 := Nat.le_of_ble_eq_true hb
      simp only [cond_true, Option.some.injEq] at h
      subst h
      have : IntKind.i32.wrap (n : Int) = (n : Int) := by
        have e : (n : Int) % 4294967296 = n := Int.emod_eq_of_lt (by omega) (by omega)
        have e2 : ¬ ((2147483648 : Int) ≤ (n : Int)) := by omega
        simp [IntKind.wrap, IntKind.bits, IntKind.signed, e, e2]
      rw [this]; rfl
  case i64 =>
    cases hb : Nat.ble n 9223372036854775807 with
    | false => rw [hb] at h; cases h
    | true =>
      rw [hb] at h
      have h1 := Nat.le_of_ble_eq_true hb
      simp only [cond_true, Option.some.injEq] at h
      subst h
      have : IntKind.i64.wrap (n : Int) = (n : Int) := i64w (by omega) (by omega)
      rw [this]; rfl
  all_goals
    simp only [Option.some.injEq] at h
    subst h
    simp only [AV.val, Option.some.injEq, Value.int.injEq, true_and]
    simp [IntKind.wrap, IntKind.bits, IntKind.signed]

theorem natBin_intN {k : IntKind} {z : Int} {n : Nat} {av : AV} (h : intN k n = some av) (hz : z = (n : Int)) : av.val ν = some (.int k (k.wrap z)) := by rw [hz]; exact intN_spec h

theorem uMod_spec {k : IntKind} {M : Nat} (h : uMod k = some M) : M = 2 ^ k.bits ∧ k.signed = false := by
  cases k <;> simp [uMod] at h <;> subst h <;> exact ⟨by decide, rfl⟩

theorem uwrap {k : IntKind} {M n : Nat} (h : uMod k = some M) (hn : n < M) : k.wrap (n : Int) = (n : Int) := by
  obtain ⟨h1, h2⟩ := uMod_spec h
  subst h1
  simp only [IntKind.wrap, h2, Bool.false_and]
  have : ((n : Int) % (2 ^ k.bits : Int)) = (n : Int) := Int.emod_eq_of_lt (by omega) (by exact_mod_cast hn)
  simpa using this

theorem bitsN_spec {k : IntKind} {x y r : Nat} {av : AV} (h : bitsN k x y r = some av) : ∃ M, uMod k = some M ∧ x < M ∧ y < M ∧ av = .num k r := by
  unfold bitsN at h
  split at h
  · rename_i M hM
    cases hb : (Nat.ble (x + 1) M && Nat.ble (y + 1) M) with
    | false => rw [hb] at h; cases h
    | true =>
      rw [hb] at h
      simp only [Bool.and_eq_true] at hb
      simp only [cond_true, forceN_eq, Option.some.injEq] at h
      have h1 := Nat.le_of_ble_eq_true hb.1
      have h2 := Nat.le_of_ble_eq_true hb.2
      exact ⟨M, hM, by omega, by omega, h.symm⟩
  · cases h

theorem ofInt_toNat {k : IntKind} {n : Nat} (h : n < 2 ^ k.bits) : (BitVec.ofInt k.bits (n : Int)).toNat = n := by
  simp only [BitVec.ofInt_natCast, BitVec.toNat_ofNat]
  exact Nat.mod_eq_of_lt h

theorem beq_ble (x y : Nat) : Nat.beq x y = decide (x = y) := by
  cases h : Nat.beq x y with
  | true => rw [decide_eq_true (Nat.eq_of_beq_eq_true h)]
  | false => rw [decide_eq_false (Nat.ne_of_beq_eq_false h)]
theorem ble_dec (x y : Nat) : Nat.ble x y = decide (x ≤ y) := by
  cases h : Nat.ble x y with
  | true => rw [decide_eq_true (Nat.le_of_ble_eq_true h)]
  | false => rw [decide_eq_false fun hle => by rw [Nat.ble_eq_true_of_le hle] at h; cases h]

theorem beqI (x y : Nat) : (Int.ofNat x == Int.ofNat y) = Nat.beq x y := by
  rw [beq_ble, Bool.eq_iff_iff]
  simp only [beq_iff_eq, decide_eq_true_eq]
  exact ⟨fun h => Int.ofNat.inj h, fun h => h ▸ rfl⟩

theorem natBin_sound {op : BinOp} {k : IntKind} {x y : Nat} {av : AV} (hs : op ≠ .shl ∧ op ≠ .shr) (t : TypeId) (h : natBin op k x y = some av) : ∃ v, av.val ν = some v ∧ binOp op t (.int k (.ofNat x)) (.int k (.ofNat y)) = .pure v := by
  cases op <;> simp only [natBin] at h
  case shl => exact absurd rfl hs.1
  case shr => exact absurd rfl hs.2
  case add => exact ⟨_, natBin_intN h (z := Int.ofNat x + Int.ofNat y) rfl, by simp [binOp, Op.intArith]; rfl⟩
  case sub =>
    cases hb : Nat.ble y x with
    | false => rw [hb] at h; cases h
    | true =>
      rw [hb] at h
      have h1 := Nat.le_of_ble_eq_true hb
      exact ⟨_, natBin_intN h (z := Int.ofNat x - Int.ofNat y) (by simp only [Int.ofNat_eq_natCast]; omega), by simp [binOp, Op.intArith]; rfl⟩
  case mul => exact ⟨_, natBin_intN h (z := Int.ofNat x * Int.ofNat y) rfl, by simp [binOp, Op.intArith]; rfl⟩
  case eql =>
    cases h
    refine ⟨_, rfl, ?_⟩
    simp only [binOp, Op.intCmp, ne_eq, not_true_eq_false, if_false, beqI]
    rfl
  case neq =>
    cases h
    refine ⟨_, rfl, ?_⟩
    simp only [binOp, Op.intCmp, ne_eq, not_true_eq_false, if_false, bne, beqI]
    rfl
  case lss => cases h; exact ⟨_, rfl, by simp [binOp, Op.intCmp, ble_dec, Nat.succ_le_iff]; rfl⟩
  case leq => cases h; exact ⟨_, rfl, by simp [binOp, Op.intCmp, ble_dec]; rfl⟩
  case gtr => cases h; exact ⟨_, rfl, by simp [binOp, Op.intCmp, ble_dec, Nat.succ_le_iff]; rfl⟩
  case geq => cases h; exact ⟨_, rfl, by simp [binOp, Op.intCmp, ble_dec]; rfl⟩
  case and =>
    obtain ⟨M, hM, hx, hy, rfl⟩ := bitsN_spec h
    obtain ⟨rfl, h2⟩ := uMod_spec hM
    refine ⟨_, rfl, ?_⟩
    simp only [binOp, Op.intBits, ne_eq, not_true_eq_false, if_false, Int.ofNat_eq_natCast, BitVec.toNat_and, ofInt_toNat hx, ofInt_toNat hy]
    rw [uwrap hM (Nat.lt_of_le_of_lt Nat.and_le_left hx)]
    rfl
  case or =>
    obtain ⟨M, hM, hx, hy, rfl⟩ := bitsN_spec h
    obtain ⟨rfl, h2⟩ := uMod_spec hM
    refine ⟨_, rfl, ?_⟩
    simp only [binOp, Op.intBits, ne_eq, not_true_eq_false, if_false, Int.ofNat_eq_natCast, BitVec.toNat_or, ofInt_toNat hx, ofInt_toNat hy]
    rw [uwrap hM (Nat.or_lt_two_pow hx hy)]
    rfl
  case xor =>
    obtain ⟨M, hM, hx, hy, rfl⟩ := bitsN_spec h
    obtain ⟨rfl, h2⟩ := uMod_spec hM
    refine ⟨_, rfl, ?_⟩
    simp only [binOp, Op.intBits, ne_eq, not_true_eq_false, if_false, Int.ofNat_eq_natCast, BitVec.toNat_xor, ofInt_toNat hx, ofInt_toNat hy]
    rw [uwrap hM (Nat.xor_lt_two_pow hx hy)]
    rfl
  case quo =>
    cases hb : Nat.beq y 0 with
    | true => rw [hb] at h; cases h
    | false =>
      rw [hb] at h
      have h1 := Nat.ne_of_beq_eq_false hb
      refine ⟨_, natBin_intN h (z := (Int.ofNat x).tdiv (Int.ofNat y)) rfl, ?_⟩
      have h2 : ¬ (Int.ofNat y = 0) := by simp only [Int.ofNat_eq_natCast]; omega
      simp only [binOp, Op.intDiv, ne_eq, not_true_eq_false, if_false, h2]
      rfl
  case rem =>
    cases hb : Nat.beq y 0 with
    | true => rw [hb] at h; cases h
    | false =>
      rw [hb] at h
      have h1 := Nat.ne_of_beq_eq_false hb
      simp only [cond_false, forceN_eq, Option.some.injEq] at h
      subst h
      have h2 : ¬ (Int.ofNat y = 0) := by simp only [Int.ofNat_eq_natCast]; omega
      refine ⟨_, rfl, ?_⟩
      simp only [binOp, Op.intDiv, ne_eq, not_true_eq_false, if_false, h2]
      rfl
  all_goals cases h

theorem kindNo_inj {k k' : IntKind} (h : Nat.beq (kindNo k) (kindNo k') = true) : k = k' := by
  cases k <;> cases k' <;> first | rfl | (exact absurd h (by decide))

theorem numBin_sound {op : BinOp} {k k' : IntKind} {x y : Nat} {av : AV} (t : TypeId) (h : numBin op k x k' y = some av) : ∃ v, av.val ν = some v ∧ binOp op t (.int k (.ofNat x)) (.int k' (.ofNat y)) = .pure v := by
  by_cases h1 : op = .shl
  · subst h1
    simp only [numBin] at h
    refine ⟨_, natBin_intN h (z := Int.ofNat x * 2 ^ (min (Int.ofNat y).toNat k.bits)) (by simp), ?_⟩
    have h2 : ¬ (Int.ofNat y < 0) := by simp only [Int.ofNat_eq_natCast]; omega
    simp only [binOp, Op.shift, h2, if_false]
    rfl
  by_cases h2 : op = .shr
  · subst h2
    simp only [numBin, forceN_eq, Option.some.injEq] at h
    subst h
    have h2 : ¬ (Int.ofNat y < 0) := by simp only [Int.ofNat_eq_natCast]; omega
    refine ⟨_, rfl, ?_⟩
    simp only [binOp, Op.shift, h2, if_false]
    have h3 : (Int.ofNat x).fdiv (2 ^ (min (Int.ofNat y).toNat k.bits)) = Int.ofNat (x / 2 ^ (min y k.bits)) := by
      have e : (2 ^ (min (Int.ofNat y).toNat k.bits) : Int) = ((2 ^ (min y k.bits) : Nat) : Int) := by simp
      rw [e, Int.fdiv_eq_ediv_of_nonneg _ (Int.natCast_nonneg _)]
      rfl
    rw [h3]
    rfl
  have h3 : numBin op k x k' y = bif Nat.beq (kindNo k) (kindNo k') then natBin op k x y else none := by
    cases op <;> first | rfl | (exact absurd rfl h1) | (exact absurd rfl h2)
  rw [h3] at h
  cases hb : Nat.beq (kindNo k) (kindNo k') with
  | false => rw [hb] at h; cases h
  | true =>
    rw [hb] at h
    obtain rfl := kindNo_inj hb
    exact natBin_sound ⟨h1, h2⟩ t h

theorem binA_sound {op : BinOp} {x y av : AV} {u u' : Value} (hx : x.val ν = some u) (hy : y.val ν = some u') (t : TypeId) (h : binA op x y = some av) :
    ∃ k k' n n' v, u = .int k n ∧ u' = .int k' n' ∧ av.val ν = some v ∧ binOp op t u u' = .pure v := by
  unfold binA at h
  split at h
  · rename_i k n
    split at h
    · rename_i k' n'
      simp only [AV.val, Option.some.injEq] at hx hy
      subst hx hy
      obtain ⟨v, h1, h2⟩ := numBin_sound (ν := ν) t h
      exact ⟨k, k', _, _, v, rfl, rfl, h1, h2⟩
    · cases h
  · cases h

theorem run_bin_int {o : Oper} {op : BinOp} {t t' : TypeId} {x y : Operand} (ho : o.op = .binOp op t x y t') {ρ : Operand → Value} {k k' : IntKind} {n n' : Int} {v : Value} (hx : ρ x = .int k n) (hy : ρ y = .int k' n') (h : binOp op t (.int k n) (.int k' n') = .pure v) (w : World) :
    (execOp ρ o).run P w = .ok (.value v) w := by
  have hg : (eqGuard op t x y (.int k n) (.int k' n')).run P w = .ok () w := by
    unfold eqGuard
    split <;> simp
  simp only [execOp, ho, hx, hy, Sem.run_bind, hg, Result.andThen_ok, h]
  rfl
end
end Go.Ev
