/-
  Ev, part L: conversions; any operation. Proved once, for any program. Conditions: none beside each theorem's own.
-/
import Derived.Test.YtnhjlddkmakfbaaDoorEvK
namespace Go.Ev
open Go.Sx
set_option linter.unusedVariables false
set_option linter.unusedSimpArgs false
section
variable {P : Program} {G : Nat → Option (List Value)} {ν : Nu} {N : Nat} {S : AE} {a : Act} {m m' : AM} {w w0 : World} {L : List Asn}

theorem ofInt_val (k : IntKind) (z : Int) : AV.val ν (ofInt k z) = some (.int k z) := by cases z <;> rfl

theorem bytesOf_spec : ∀ {cs : List AV} {bs : List UInt8}, convA.bytesOf cs = some bs → vals ν cs = some (bs.map fun b => Value.int .u8 (b.toNat : Int))
  | [], bs, h => by simp only [convA.bytesOf, Option.some.injEq] at h; subst h; rfl
  | x :: l, bs, h => by
    unfold convA.bytesOf at h
    split at h
    · rename_i n
      cases hb : Nat.ble n 255 with
      | false => rw [hb] at h; cases h
      | true =>
        rw [hb] at h
        have hb := ble_true hb
        simp only [cond_true] at h
        split at h
        · rename_i cs hcs
          simp only [Option.some.injEq] at h
          subst h
          refine vals_cons_mk ?_ (bytesOf_spec hcs)
          have : (UInt8.ofNat n).toNat = n := by
            rw [UInt8.toNat_ofNat']
            omega
          simp only [AV.val, this]
          rfl
        · cases h
    · cases h

theorem run_strBytes (e : TypeId) (s : ByteArray) (hs : s.size ≤ 1000000000) (w : World) : ∃ cap, s.size ≤ cap ∧ cap ≤ 9223372036854775807 ∧ (Conv.stringToBytes e s).run P w = .ok (.slice (some ⟨w.heap.size, 0, none⟩) s.size cap)
    { w with drawn := w.drawn + 1, heap := w.heap.push (.cells ((s.toList.map fun b => Value.int .u8 (b.toNat : Int)) ++ List.replicate (cap - s.size) (Value.int .u8 0)).toArray e (((s.toList.map fun b => Value.int .u8 (b.toNat : Int)) ++ List.replicate (cap - s.size) (Value.int .u8 0)).length, ((s.toList.map fun b => Value.int .u8 (b.toNat : Int)) ++ List.replicate (cap - s.size) (Value.int .u8 0)).length + 1)) } := by
  refine ⟨grownCap w s.size 0 e, grownCap_ge w s.size 0 e, grownCap_le_maxLen w s.size 0 e (by simp only [maxLen]; omega), ?_⟩
  have harr : (s.data.map fun b => (Value.int .u8 (b.toNat : Int))) ++ Array.replicate (grownCap w s.size 0 e - s.size) (Value.int .u8 0) = ((s.toList.map fun b => Value.int .u8 (b.toNat : Int)) ++ List.replicate (grownCap w s.size 0 e - s.size) (Value.int .u8 0)).toArray := by
    apply Array.ext'
    simp [ByteArray.toList_eq]
  have hch : (choose (.appendCap s.size 0 e)).run P w = .ok (grownCap w s.size 0 e) { w with drawn := w.drawn + 1 } := by
    simp [choose, Sem.run, Question.forced, grownCap]
  simp only [Conv.stringToBytes, Sem.run_bind, hch, Result.andThen_ok]
  rw [harr, run_newRow]
  generalize ((s.toList.map fun b => Value.int .u8 (b.toNat : Int)) ++ List.replicate (grownCap w s.size 0 e - s.size) (Value.int .u8 0)) = l
  have hsh : World.shape? { w with drawn := w.drawn + 1, heap := w.heap.push (.cells l.toArray e) } w.heap.size = some (e, l.length) := by
    simp [World.shape?]
  have hfz : World.freeze { w with drawn := w.drawn + 1, heap := w.heap.push (.cells l.toArray e) } { block := w.heap.size, off := l.length } 1 = { w with drawn := w.drawn + 1, heap := w.heap.push (.cells l.toArray e (l.length, l.length + 1)) } := by
    simp only [World.freeze, Nat.one_ne_zero, if_false]
    congr 1
    apply Array.ext_getElem?
    intro k
    rw [Array.getElem?_modify]
    by_cases hk : w.heap.size = k
    · subst hk; simp
    · rw [if_neg hk]
      simp only [Array.getElem?_push]
      rw [if_neg (fun e => hk e.symm), if_neg (fun e => hk e.symm)]
  simp only [Result.andThen_ok, markStringish, shape, freeze, bind, Sem.bind, Sem.run, hsh, hfz, pure]

theorem convA_sound (hs : St w0 (Mem ν m :: L) w) {o : Oper} {src dst : TypeId} {x : Operand} (ho : o.op = .convert src dst x) {ρ : Operand → Value} {xa av : AV} (hx : xa.val ν = some (ρ x)) (h : convA P m src dst xa = some (av, m')) : Eff P ν w0 L m' (execOp ρ o) w av := by
  have hm := memOK hs
  have key : ∀ v, (convert src dst (ρ x)).run P w = .ok v w → (execOp ρ o).run P w = .ok (.value v) w := by
    intro v hv
    simp only [execOp, ho, Sem.run_bind, hv, Result.andThen_ok, Sem.run_pure]
  unfold convA at h
  split at h
  · rename_i d k k' n hu1 hu2
    simp only [AV.val, Option.some.injEq] at hx
    have hc : (convert src dst (ρ x)).run P w = .ok (.int k (k.wrap (n : Int))) w := by
      rw [← hx]
      simp only [convert, Sem.run_bind, run_underlying hu1, run_underlying hu2, Result.andThen_ok, Conv.intToInt]
      rfl
    split at h
    · rename_i b hb
      simp only [Option.some.injEq, Prod.mk.injEq] at h
      obtain ⟨rfl, rfl⟩ := h
      exact ⟨_, ν, w, Nu.le_refl ν, intN_spec hb, hs, .inl (key _ hc)⟩
    · simp only [Option.some.injEq, Prod.mk.injEq] at h
      obtain ⟨rfl, rfl⟩ := h
      exact ⟨_, ν, w, Nu.le_refl ν, ofInt_val _ _, hs, .inl (key _ hc)⟩
  · rename_i d k k' n hu1 hu2
    simp only [AV.val, Option.some.injEq] at hx
    simp only [Option.some.injEq, Prod.mk.injEq] at h
    obtain ⟨rfl, rfl⟩ := h
    refine ⟨_, ν, w, Nu.le_refl ν, ofInt_val _ _, hs, .inl (key _ ?_)⟩
    rw [← hx]
    simp only [convert, Sem.run_bind, run_underlying hu1, run_underlying hu2, Result.andThen_ok, Conv.intToInt]
    rfl
  · rename_i q1 q2 xa e hu1 hu2
    split at h
    · rename_i id off len cap kn hue
      split at h
      · rename_i cs hcs
        split at h
        · rename_i bs hbs
          simp only [Option.some.injEq, Prod.mk.injEq] at h
          obtain ⟨rfl, rfl⟩ := h
          obtain ⟨p, c, hp, hv, _⟩ := sl_val hx
          have hb := bytesOf_spec (ν := ν) hbs
          unfold readsA at hcs
          simp only at hcs
          split at hcs
          · rename_i cs0 hc0
            obtain ⟨p', vs, rest, T, fr, h1, h2, h3, h4⟩ := cellsAt_spec hm hc0
            rw [hp] at h1
            cases h1
            obtain ⟨h5, h6⟩ := vals_cut hcs h2
            rw [hb] at h5
            simp only [Option.some.injEq] at h5
            have hlen : bs.length = len := by
              have := congrArg List.length h5
              simp only [List.length_map, List.length_take, List.length_drop] at this
              omega
            refine ⟨_, ν, w, Nu.le_refl ν, rfl, hs, .inl (key _ ?_)⟩
            rw [hv, ← hlen]
            refine run_convert_bytes_back w src dst e _ c bs hu1 hue hu2 fun j hj => ?_
            rw [add_mk, cell_of h3 (by omega)]
            have h7 : ((vs.drop off).take (len * 1))[j]? = (bs.map fun b => Value.int .u8 (b.toNat : Int))[j]? := by rw [h5]
            rw [List.getElem?_take, if_pos (by omega), List.getElem?_drop] at h7
            rw [h7]
            simp [hj]
          · cases hcs
        · cases h
      · cases h
    · rename_i id o1 o2 sub hue
      simp only [Option.some.injEq, Prod.mk.injEq] at h
      obtain ⟨rfl, rfl⟩ := h
      obtain ⟨p, off, c, hp, hv⟩ := se_val hx
      refine ⟨_, ν, w, Nu.le_refl ν, rfl, hs, .inl (key _ ?_)⟩
      rw [hv]
      exact run_convert_bytes_back w src dst e _ c [] hu1 hue hu2 fun j hj => by simp at hj
    · rename_i l c hue
      simp only [AV.val, Option.some.injEq] at hx
      simp only [Option.some.injEq, Prod.mk.injEq] at h
      obtain ⟨rfl, rfl⟩ := h
      refine ⟨_, ν, w, Nu.le_refl ν, rfl, hs, .inl (key _ ?_)⟩
      rw [← hx]
      simp only [convert, Sem.run_bind, run_underlying hu1, run_underlying hu2, Result.andThen_ok, run_underlying hue, Conv.bytesToString]
      rfl
    · cases h
  · rename_i e s hu1 hu2
    split at h
    · rename_i hue
      simp only [AV.val, Option.some.injEq] at hx
      cases hbs : Nat.ble s.size 1000000000 with
      | false => rw [hbs] at h; cases h
      | true =>
      rw [hbs] at h
      simp only [cond_true, Option.some.injEq, growA, Prod.mk.injEq] at h
      obtain ⟨rfl, rfl⟩ := h
      obtain ⟨cap, hc, hcm, hr⟩ := run_strBytes (P := P) e s (ble_true hbs) w
      have key2 : ∀ l : List UInt8, vals ν (l.map fun b => AV.num .u8 b.toNat) = some (l.map fun b => Value.int .u8 (b.toNat : Int)) := by
        intro l
        induction l with
        | nil => rfl
        | cons b l ih => exact vals_cons_mk rfl ih
      have hsz : s.data.toList.length = s.size := Array.length_toList
      simp only [ByteArray.toList_eq] at hr
      obtain ⟨k1, k2⟩ := newBuf (w := { w with drawn := w.drawn + 1 }) hs.drew (key2 s.data.toList) e (z := 1) (cap := cap) (rest := List.replicate (cap - s.size) (Value.int .u8 0)) (by rw [List.length_append, List.length_map, hsz, List.length_replicate]; omega)
        (((s.data.toList.map fun b => Value.int .u8 (b.toNat : Int)) ++ List.replicate (cap - s.size) (Value.int .u8 0)).length, ((s.data.toList.map fun b => Value.int .u8 (b.toNat : Int)) ++ List.replicate (cap - s.size) (Value.int .u8 0)).length + 1) (fun i h1 h2 => by omega) hcm
      refine ⟨_, _, _, k2, slU_mk (Nu.add_self _ _ _) hc (by simp), k1, .inl ?_⟩
      have : (convert src dst (ρ x)).run P w = (Conv.stringToBytes e s).run P w := by
        rw [← hx]
        simp only [convert, Sem.run_bind, run_underlying hu1, run_underlying hu2, Result.andThen_ok, run_underlying hue]
      simp only [execOp, ho, Sem.run_bind, this, hr, Result.andThen_ok, Sem.run_pure]
    · cases h
  · rename_i s hu1 hu2
    simp only [AV.val, Option.some.injEq] at hx
    simp only [Option.some.injEq, Prod.mk.injEq] at h
    obtain ⟨rfl, rfl⟩ := h
    refine ⟨_, ν, w, Nu.le_refl ν, rfl, hs, .inl (key _ ?_)⟩
    rw [← hx]
    simp only [convert, Sem.run_bind, run_underlying hu1, run_underlying hu2, Result.andThen_ok, Sem.run_pure]
  · cases h

/-! ### Calls -/
def GOK (G : Nat → Option (List Value)) (w0 : World) (L : List Asn) : Prop := ∀ ν m w, St w0 (Mem ν m :: L) w → Glob G w

def CallOK (P : Program) (G : Nat → Option (List Value)) (call : FuncId → List AV → AM → R2) : Prop := ∀ f as m r m' ν vs w w0 L, enters P f = true → call f as m = some (r, m') → GOK G w0 L → vals ν as = some vs → St w0 (Mem ν m :: L) w →
  Calls P f vs.toArray w (Ret fun v w' => ∃ ν', ν.le ν' ∧ r.val ν' = some v ∧ St w0 (Mem ν' m' :: L) w')

theorem enters_spec {f : FuncId} (h : enters P f = true) (args : Array Value) (w : World) : (callFunc f args).run P w = .ok (.enter f args) w := by
  unfold enters at h
  split at h
  · rename_i fn hf
    cases hn : (fn.name == "runtime.NumGoroutine") with
    | true => rw [hn] at h; cases h
    | false =>
      rw [hn] at h
      simp only [cond_false] at h
      obtain ⟨b, hb⟩ := Option.isSome_iff_exists.1 h
      simp [callFunc, hf, hn, hb, Sem.run_bind]
      simpa using hn
  · cases h

theorem callee_spec (hf : FitsA ν N S a) {x : Operand} {args : Array Operand} {f : FuncId} {as : List AV} (h : callee S x args.toList = some (f, as)) :
    ∃ (fst cap : Array Value) (vs : List Value), a.eval x = .func (.func f) fst cap ∧ args.map a.eval = vs.toArray ∧ vals ν as = some (fst.toList ++ vs ++ cap.toList) := by
  unfold callee at h
  split at h
  · rename_i bs hbs
    have h1 := hf.ops hbs
    have h4 : args.map a.eval = (args.toList.map a.eval).toArray := by apply Array.ext'; simp
    split at h
    · rename_i f' fst cap hx
      obtain ⟨v, hv, ex⟩ := hf.op hx
      simp only [AV.val, Option.some.injEq] at hv
      simp only [Option.some.injEq, Prod.mk.injEq] at h
      obtain ⟨rfl, rfl⟩ := h
      exact ⟨fst, cap, _, by rw [ex, hv], h4, vals_append (vals_append (lifts_vals ν _) h1) (lifts_vals ν _)⟩
    · rename_i f' fst cap hx
      obtain ⟨v, hv, ex⟩ := hf.op hx
      obtain ⟨us, ws, h2, h3, rfl⟩ := fn_val hv
      simp only [Option.some.injEq, Prod.mk.injEq] at h
      obtain ⟨rfl, rfl⟩ := h
      exact ⟨us.toArray, ws.toArray, _, ex, h4, by simpa using vals_append (vals_append h2 h1) h3⟩
    · cases h
  · cases h

theorem rd_some {r : Option AV} {av : AV} (h : rd m r = some (av, m')) : r = some av ∧ m' = m := by
  cases r with
  | none => cases h
  | some b => simp only [rd, Option.some.injEq, Prod.mk.injEq] at h; exact ⟨by rw [h.1], h.2.symm⟩

theorem on1r_some {x : Option AV} {f : AV → R2} {r : AV × AM} (h : on1r x f = some r) : ∃ b, x = some b ∧ f b = some r := by
  cases x with
  | none => cases h
  | some b => exact ⟨b, rfl, h⟩

/-- ANY OPERATION. -/
theorem effOp_wp {call : FuncId → List AV → AM → R2} (hc : CallOK P G call) (hG : GOK G w0 L) (hf : FitsA ν N S a) (hs : St w0 (Mem ν m :: L) w) {o : Oper} {av : AV} (h : effOp P G call m S o = some (av, m'))
    {K : Act → World → Prop} {Q : Exit → Act → World → Prop} (hK : ∀ v ν' w', ν.le ν' → av.val ν' = some v → St w0 (Mem ν' m' :: L) w' → K (a.put o.dst v) w') : o.wp P a w K Q := by
  have hm := memOK hs
  have fin : Eff P ν w0 L m' (execOp a.eval o) w av → o.wp P a w K Q := by
    rintro ⟨v, ν', w', h1, h2, h3, h4 | ⟨h4, rfl⟩⟩
    · unfold Oper.wp; rw [h4]; exact hK v ν' w' h1 h2 h3
    · unfold Oper.wp; rw [h4]; exact hK undef ν' w' h1 h2 h3
  have finR : (∃ v, av.val ν = some v ∧ (execOp a.eval o).run P w = .ok (.value v) w) → m' = m → o.wp P a w K Q := by
    rintro ⟨v, h1, h2⟩ rfl
    exact fin ⟨v, ν, w, Nu.le_refl ν, h1, hs, .inl h2⟩
  have op1 : ∀ {x : Operand} {b : AV}, opnd S x = some b → b.val ν = some (a.eval x) := by
    intro x b hb
    obtain ⟨v, h1, h2⟩ := hf.op hb
    rw [h2]; exact h1
  have fb : ∀ {c : Call} {b : Builtin} {as : List AV}, o.op = .call c → c.callee = .builtin b → opnds S c.args.toList = some as → ∃ (vs : List Value) (cs : Array Bool), vals ν as = some vs ∧ (execOp a.eval o).run P w = (builtin b c.argTypes o.type cs vs.toArray).run P w := fun h1 h2 h3 => run_bA hf h1 h2 h3 w
  unfold effOp at h
  split at h
  · rename_i op t x y t' ho
    obtain ⟨h, e⟩ := rd_some h
    exact finR (binOpA_sound hf ho h w) e
  · rename_i t x ho
    obtain ⟨h, e⟩ := rd_some h
    obtain ⟨b, hb, h⟩ := on1_some h
    obtain ⟨ad, v, h1, h2, h3⟩ := loadA_sound hm (hG ν m w hs) (op1 hb) h
    exact finR ⟨v, h2, run_load ho h1 h3⟩ e
  · rename_i t x y ho; exact fin (storeOp_sound hf hs ho h)
  · rename_i t ho; exact fin (allocOp_sound hs ho h)
  · rename_i t x ho; exact fin (boxOp_sound hf hs ho h)
  · rename_i t len parts ho; exact fin (buildSliceA_sound hf hs ho h)
  · rename_i t r ho; exact fin (makeMapOp_sound hs ho h)
  · rename_i t l c ho; exact fin (makeSliceOp_sound hf hs ho h)
  · rename_i t x k v ho; exact fin (updOp_sound hf hs (.inl ho) h)
  · rename_i t x k v ho; exact fin (updOp_sound hf hs (.inr ho) h)
  · rename_i t x k ho; exact fin (meOp_sound hf hs ho h)
  · rename_i t x st v ho; exact fin (esOp_sound hf hs ho h)
  · rename_i t x ho
    obtain ⟨b, hb, h⟩ := on1r_some h
    exact fin (rangeA_sound hs ho (op1 hb) h)
  · rename_i x str ho
    obtain ⟨b, hb, h⟩ := on1r_some h
    exact fin (nextA_sound hs ho (op1 hb) h)
  · rename_i src dst x ho
    obtain ⟨b, hb, h⟩ := on1r_some h
    exact fin (convA_sound hs ho (op1 hb) h)
  · rename_i c ho
    split at h
    · rename_i b hcb
      unfold builtinOp at h
      split at h
      · split at h
        · rename_i as has
          obtain ⟨vs, cs, h1, h2⟩ := fb ho hcb has
          obtain ⟨v, ν', w', k1, k2, k3, k4⟩ := appendA_sound (P := P) (ty := o.type) hs h1 h
          refine fin ⟨v, ν', w', k1, k2, k3, .inl ?_⟩
          rw [h2]
          simp only [builtin, Sem.run_bind, k4, Result.andThen_ok, Sem.run_pure]
        · cases h
      · split at h
        · rename_i as has
          obtain ⟨vs, cs, h1, h2⟩ := fb ho hcb has
          obtain ⟨v, w', k2, k3, k4⟩ := copyA_sound (P := P) (ty := o.type) hs h1 h
          refine fin ⟨v, ν, w', Nu.le_refl ν, k2, k3, .inl ?_⟩
          rw [h2]
          simp only [builtin, Sem.run_bind, k4, Result.andThen_ok, Sem.run_pure]
        · cases h
      · split at h
        · rename_i as has
          obtain ⟨vs, cs, h1, h2⟩ := fb ho hcb has
          split at h
          · rename_i m2 hd
            simp only [Option.some.injEq, Prod.mk.injEq] at h
            obtain ⟨rfl, rfl⟩ := h
            obtain ⟨w', k3, k4⟩ := deleteA_sound (P := P) (ty := o.type) hs h1 hd
            refine fin ⟨_, ν, w', Nu.le_refl ν, rfl, k3, .inl ?_⟩
            rw [h2]
            simp only [builtin, Sem.run_bind, k4, Result.andThen_ok, Sem.run_pure]
          · cases h
        · cases h
      · split at h
        · rename_i as has
          obtain ⟨vs, cs, h1, h2⟩ := fb ho hcb has
          split at h
          · rename_i m2 hd
            simp only [Option.some.injEq, Prod.mk.injEq] at h
            obtain ⟨rfl, rfl⟩ := h
            obtain ⟨w', k3, k4⟩ := clearA_sound (P := P) (ty := o.type) hs h1 hd
            refine fin ⟨_, ν, w', Nu.le_refl ν, rfl, k3, .inl ?_⟩
            rw [h2]
            simp only [builtin, Sem.run_bind, k4, Result.andThen_ok, Sem.run_pure]
          · cases h
        · cases h
      · obtain ⟨h, e⟩ := rd_some h
        exact finR (readOp_sound hf hm (hG ν m w hs) h) e
    · rename_i x hcx
      unfold callOp at h
      split at h
      · rename_i f as hcal
        cases hen : enters P f with
        | false => rw [hen] at h; cases h
        | true =>
          rw [hen] at h
          simp only [cond_true] at h
          obtain ⟨fst, cap, vs, h1, h2, h3⟩ := callee_spec hf hcal
          have hcalls := hc f as m av m' ν _ w w0 L hen h hG h3 hs
          have hrun : (execOp a.eval o).run P w = .ok (.enter f (fst.toList ++ vs ++ cap.toList).toArray) w := by
            generalize a.eval = ρ at h1 h2 ⊢
            have h5 : fst ++ (vs.toArray ++ cap) = (fst.toList ++ (vs ++ cap.toList)).toArray := by
              apply Array.ext'
              simp
            simp [execOp, ho, resolve, hcx, h1, h2, Deferred.ofValue, invoke, go_sem]
            rw [h5]
            exact enters_spec hen _ _
          unfold Oper.wp
          rw [hrun]
          refine Calls.mono hcalls fun e w' he => ?_
          cases e with
          | returned v =>
            obtain ⟨ν', k1, k2, k3⟩ := he
            exact hK v ν' w' k1 k2 k3
          | panicked c => exact he.elim
          | outgrown => exact he.elim
      · cases h
    · cases h
  · obtain ⟨h, e⟩ := rd_some h
    exact finR (readOp_sound hf hm (hG ν m w hs) h) e
end
end Go.Ev
