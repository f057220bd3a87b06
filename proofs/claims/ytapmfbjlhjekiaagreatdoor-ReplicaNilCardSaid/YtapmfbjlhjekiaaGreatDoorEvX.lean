/-
  Ev, part X: the reckoner, taken apart ahead: each operation and each code is told once as a function of memory and slots, so that the kernel keeps what it found; it reckons what 'exec' does. Conditions: none.
-/
import Derived.Test.YtapmfbjlhjekiaaGreatDoorEvM
namespace Go.Ev
open Go.Sx
set_option linter.unusedVariables false
set_option linter.unusedSimpArgs false

/-- What was found once. -/
inductive Dec (α : Type) where
  | mk (f : α)
noncomputable def Dec.un {α : Type} (d : Dec α) : α := Dec.rec (fun f => f) d
noncomputable def Dec.go {α β : Type} (d : Dec α) (k : α → Dec β) : Dec β := Dec.rec k d
@[simp] theorem Dec.un_mk {α : Type} (f : α) : (Dec.mk f).un = f := rfl
@[simp] theorem Dec.un_go {α β : Type} (d : Dec α) (k : α → Dec β) : (d.go k).un = (k d.un).un := by cases d; rfl

/-! ### Slots -/
noncomputable def gDig {α : Type} (i : Nat) (g : Tr α → Option α) : Dec (Tr α → Option α) :=
  Tr.pick i (.mk fun T => Tr.rec none (fun _ a _ _ _ _ _ _ _ => g a) T) (.mk fun T => Tr.rec none (fun _ _ b _ _ _ _ _ _ => g b) T)
      (.mk fun T => Tr.rec none (fun _ _ _ c _ _ _ _ _ => g c) T) (.mk fun T => Tr.rec none (fun _ _ _ _ d _ _ _ _ => g d) T)
noncomputable def pathG {α : Type} (d : Nat) : Nat → Dec (Tr α → Option α) :=
  Nat.rec (fun _ => .mk fun _ => none) (fun _ ih n => Nat.rec (.mk fun T => Tr.rec none (fun v _ _ _ _ _ _ _ _ => v) T)
    (fun k _ => (ih (Nat.div k 4)).go fun g => gDig (Nat.mod k 4) g) n) d
theorem pathG_eq {α : Type} : ∀ (d n : Nat) (T : Tr α), n < d → (pathG d n).un T = T.get n
  | 0, n, T, h => absurd h (Nat.not_lt_zero _)
  | d + 1, 0, T, h => by cases T <;> rfl
  | d + 1, n + 1, T, h => by
    have hk : Nat.div n 4 < d := by show n / 4 < d; omega
    show (((pathG d (Nat.div n 4)).go fun g => gDig (Nat.mod n 4) g).un T) = _
    rw [Dec.un_go]
    cases T with
    | nil => rcases Tr.four n with h | h | h | h <;> rw [h] <;> rfl
    | node v a b c e =>
      rw [Tr.get_succ]
      rcases Tr.four n with h | h | h | h <;> rw [h] <;> exact pathG_eq d _ _ hk

noncomputable def pDig {α : Type} (i : Nat) (g : Tr α → Option α → Tr α) : Dec (Tr α → Option α → Tr α) :=
  Tr.pick i
      (.mk fun T x => Tr.rec (.node none (g .nil x) .nil .nil .nil) (fun v a b c d _ _ _ _ => .node v (g a x) b c d) T)
      (.mk fun T x => Tr.rec (.node none .nil (g .nil x) .nil .nil) (fun v a b c d _ _ _ _ => .node v a (g b x) c d) T)
      (.mk fun T x => Tr.rec (.node none .nil .nil (g .nil x) .nil) (fun v a b c d _ _ _ _ => .node v a b (g c x) d) T)
      (.mk fun T x => Tr.rec (.node none .nil .nil .nil (g .nil x)) (fun v a b c d _ _ _ _ => .node v a b c (g d x)) T)
noncomputable def pathP {α : Type} (d : Nat) : Nat → Dec (Tr α → Option α → Tr α) :=
  Nat.rec (fun _ => .mk fun T _ => T) (fun _ ih n => Nat.rec (.mk fun T x => Tr.rec (.node x .nil .nil .nil .nil) (fun _ a b c d _ _ _ _ => .node x a b c d) T)
    (fun k _ => (ih (Nat.div k 4)).go fun g => pDig (Nat.mod k 4) g) n) d
theorem pathP_eq {α : Type} : ∀ (d n : Nat) (T : Tr α) (x : Option α), (pathP d n).un T x = Tr.put d T n x
  | 0, n, T, x => rfl
  | d + 1, 0, T, x => by cases T <;> rfl
  | d + 1, n + 1, T, x => by
    show (((pathP d (Nat.div n 4)).go fun g => pDig (Nat.mod n 4) g).un T x) = _
    rw [Dec.un_go]
    cases T with
    | nil => rw [Tr.put_nilS]; unfold Tr.ups; rw [← pathP_eq d _ .nil x]; rcases Tr.four n with h | h | h | h <;> rw [h] <;> rfl
    | node v a b c e => rw [Tr.put_nodeS]; unfold Tr.ups; rw [← pathP_eq d _ _ x]; rcases Tr.four n with h | h | h | h <;> rw [h] <;> rfl

noncomputable def getD (t : Nat) : Dec (AE → Option AV) := pathG (t + 1) t
noncomputable def setD (t : Nat) : Dec (AE → Option AV → AE) := pathP (t + 1) t
@[simp] theorem getD_eq (t : Nat) (S : AE) : (getD t).un S = S.get t := pathG_eq _ _ _ (Nat.lt_succ_self t)
@[simp] theorem setD_eq (t : Nat) (S : AE) (a : Option AV) : (setD t).un S a = S.set t a := pathP_eq _ _ _ _

/-! ### Looks at values -/
section
variable {β : Type}
noncomputable def onNum (f : IntKind → Nat → β) (e : β) (a : AV) : β := AV.rec (motive_1 := fun _ => β) (motive_2 := fun _ => Unit) f (fun _ => e) (fun _ => e) (fun _ _ => e) (fun _ _ _ _ _ => e) (fun _ _ _ _ => e) (fun _ => e) (fun _ _ _ _ _ => e) (fun _ _ => e) (fun _ _ => e) (fun _ => e) (fun _ _ _ => e) () (fun _ _ _ _ => ()) a
noncomputable def onPtr (f : Nat → Nat → β) (e : β) (a : AV) : β := AV.rec (motive_1 := fun _ => β) (motive_2 := fun _ => Unit) (fun _ _ => e) (fun _ => e) (fun _ => e) f (fun _ _ _ _ _ => e) (fun _ _ _ _ => e) (fun _ => e) (fun _ _ _ _ _ => e) (fun _ _ => e) (fun _ _ => e) (fun _ => e) (fun _ _ _ => e) () (fun _ _ _ _ => ()) a
noncomputable def onBool (f : Bool → β) (e : β) (a : AV) : β := AV.rec (motive_1 := fun _ => β) (motive_2 := fun _ => Unit) (fun _ _ => e) f (fun _ => e) (fun _ _ => e) (fun _ _ _ _ _ => e) (fun _ _ _ _ => e) (fun _ => e) (fun _ _ _ _ _ => e) (fun _ _ => e) (fun _ _ => e) (fun _ => e) (fun _ _ _ => e) () (fun _ _ _ _ => ()) a
end
noncomputable def onO {α β : Type} (f : α → Option β) (x : Option α) : Option β := Option.rec none f x

section
variable (P : Program) (G : Nat → Option (List Value))

noncomputable def opD : Operand → Dec (AE → Option AV)
  | .tmp t => getD t
  | .const v => .mk fun _ => some (lift v)
  | .global g => .mk fun _ => some (.flat (.pointer (some ⟨g, 0, none⟩)))
  | .func f => .mk fun _ => some (.flat (.func (.func f) #[] #[]))
@[simp] theorem opD_eq (x : Operand) (S : AE) : (opD x).un S = opnd S x := by
  cases x with
  | tmp t => exact getD_eq t S
  | _ => rfl

noncomputable def binD (op : BinOp) : Dec (IntKind → Nat → IntKind → Nat → Option AV) :=
  match op with
  | .add => .mk fun k x k' y => bif Nat.beq (kindNo k) (kindNo k') then intN k (x + y) else none
  | .eql => .mk fun k x k' y => bif Nat.beq (kindNo k) (kindNo k') then some (.bool (Nat.beq x y)) else none
  | .neq => .mk fun k x k' y => bif Nat.beq (kindNo k) (kindNo k') then some (.bool (!Nat.beq x y)) else none
  | .lss => .mk fun k x k' y => bif Nat.beq (kindNo k) (kindNo k') then some (.bool (Nat.ble (x + 1) y)) else none
  | .leq => .mk fun k x k' y => bif Nat.beq (kindNo k) (kindNo k') then some (.bool (Nat.ble x y)) else none
  | .gtr => .mk fun k x k' y => bif Nat.beq (kindNo k) (kindNo k') then some (.bool (Nat.ble (y + 1) x)) else none
  | .geq => .mk fun k x k' y => bif Nat.beq (kindNo k) (kindNo k') then some (.bool (Nat.ble y x)) else none
  | .xor => .mk fun k x k' y => bif Nat.beq (kindNo k) (kindNo k') then bitsN k x y (Nat.xor x y) else none
  | .and => .mk fun k x k' y => bif Nat.beq (kindNo k) (kindNo k') then bitsN k x y (Nat.land x y) else none
  | .or => .mk fun k x k' y => bif Nat.beq (kindNo k) (kindNo k') then bitsN k x y (Nat.lor x y) else none
  | op => .mk fun k x k' y => numBin op k x k' y
@[simp] theorem binD_eq (op : BinOp) (k : IntKind) (x : Nat) (k' : IntKind) (y : Nat) : (binD op).un k x k' y = numBin op k x k' y := by cases op <;> rfl

noncomputable def binOpD (o : Oper) (op : BinOp) (t : TypeId) (x y : Operand) : Dec (AE → Option AV) :=
  (opD x).go fun fx => (opD y).go fun fy => (binD op).go fun fb => .mk fun S =>
    onO (fun a => onO (fun b => Option.rec (motive := fun _ => Option AV) (orGen P S o (nilEq P op t a b)) (fun r => some r) (onNum (fun k a => onNum (fun k' b => fb k a k' b) none b) none a)) (fy S)) (fx S)
@[simp] theorem binOpD_eq (S : AE) (o : Oper) (op : BinOp) (t : TypeId) (x y : Operand) : (binOpD P o op t x y).un S = binOpA P S o op t (opnd S x) (opnd S y) := by
  simp only [binOpD, Dec.un_go, Dec.un_mk, opD_eq]
  cases opnd S x with
  | none => rfl
  | some a =>
    cases opnd S y with
    | none => rfl
    | some b =>
      have e : onNum (fun k a => onNum (fun k' b => (binD op).un k a k' b) none b) none a = binA op a b := by
        cases a <;> try rfl
        cases b <;> try rfl
        exact binD_eq ..
      simp only [onO, binOpA, e]
      cases binA op a b <;> rfl

noncomputable def loadD (t : TypeId) : Dec (AM → AV → Option AV) :=
  match aggSize P t with
  | some none => .mk fun m a => onPtr (fun id off => onO (fun cs => cs[off]?) (cellsAt m id)) (loadA P G m t a) a
  | _ => .mk fun m a => loadA P G m t a
@[simp] theorem loadD_eq (t : TypeId) (m : AM) (a : AV) : (loadD P G t).un m a = loadA P G m t a := by
  unfold loadD
  cases h : aggSize P t with
  | none => rfl
  | some x =>
    cases x with
    | some n => rfl
    | none =>
      cases a <;> try rfl
      rename_i id off
      show onO (fun cs => cs[off]?) (cellsAt m id) = _
      simp only [loadA, partA, h, onO]
      cases cellsAt m id <;> rfl

/-- Where a field stands. -/
def faOff (t : TypeId) (f : Nat) : Option Nat :=
  match P.underlying t with
  | some (.struct fields) => match fields.toList[f]? with
    | some fd => match P.info? fd.type with
      | some i => bif Nat.beq i.size 0 then none else some fd.offset
      | none => none
    | none => none
  | _ => none

noncomputable def faD (t : TypeId) (f : Nat) : Dec (AV → Option AV) :=
  Option.rec (motive := fun _ => Dec (AV → Option AV)) (.mk fun a => fieldAddrA P t a f) (fun n => forceN n fun n => .mk fun a => onPtr (fun id off => some (.ptr id (off + n))) none a) (faOff P t f)
@[simp] theorem faD_eq (t : TypeId) (f : Nat) (a : AV) : (faD P t f).un a = fieldAddrA P t a f := by
  unfold faD
  cases h : faOff P t f with
  | none => rfl
  | some n =>
    have e : ∀ (k : Nat → Dec (AV → Option AV)), forceN n k = k n := fun k => by cases n <;> rfl
    simp only [e, Dec.un_mk]
    unfold faOff at h
    cases a <;> simp only [onPtr, fieldAddrA]
    split at h
    · rename_i fields hu
      simp only [hu]
      split at h
      · rename_i fd hf
        simp only [hf]
        split at h
        · rename_i i hi
          simp only [hi]
          cases hb : Nat.beq i.size 0 with
          | true => rw [hb] at h; cases h
          | false =>
            rw [hb] at h
            simp only [cond_false, Option.some.injEq] at h
            rw [← h]; rfl
        · cases h
      · cases h
    · cases h

/-- An operation that only reads. -/
noncomputable def readD (o : Oper) : Dec (AM → AE → Option AV) :=
  match o.op with
  | .move x => (opD x).go fun f => .mk fun m S => f S
  | .assign x => (opD x).go fun f => .mk fun m S => f S
  | .load t x => (opD x).go fun f => (loadD P G t).go fun g => .mk fun m S => onO (fun a => g m a) (f S)
  | .nilCheck x => (opD x).go fun f => .mk fun m S => nilCheckA (f S)
  | .binOp op t x y _ => (binOpD P o op t x y).go fun f => .mk fun m S => f S
  | .slice t x lo hi mx => (opD x).go fun f => .mk fun m S => sliceOpA P S o t (f S) lo hi mx
  | .fieldAddr t x f => (opD x).go fun fx => (faD P t f).go fun g => .mk fun m S => Option.rec (motive := fun _ => Option AV) (genOp P S o) (fun r => some r) (onO (fun a => g a) (fx S))
  | .field t x f => (opD x).go fun fx => .mk fun m S => orGen P S o (on1 (fx S) fun a => fieldA P t a f)
  | .indexAddr t x i => (opD x).go fun fx => (opD i).go fun fi => .mk fun m S => orGen P S o (on2 (fx S) (fi S) (indexAddrA P t))
  | .index t x i => (opD x).go fun fx => (opD i).go fun fi => .mk fun m S => orGen P S o (on2 (fx S) (fi S) (indexA P t))
  | .lookup t x k ok => (opD x).go fun fx => (opD k).go fun fk => .mk fun m S => orGen P S o (on2 (fx S) (fk S) fun a b => lookupA P m t a b ok)
  | .extract x i => (opD x).go fun fx => .mk fun m S => extractA P S o (fx S) i
  | .build t parts => .mk fun m S => orGen P S o (buildA P S t parts.toList)
  | .pick c a b => .mk fun m S => pickA S c a b
  | .makeFunc fn fst cap => .mk fun m S => makeFuncA S fn fst.toList cap.toList
  | .sliceToArrayPointer t x => .mk fun m S => on1 (opnd S x) (arrayAtA P t)
  | .unOp _ _ _ => .mk fun m S => genOp P S o
  | .call c => match c.callee with
    | .builtin b => match b with
      | .len => .mk fun m S => lenOpA P m S o c
      | _ => .mk fun m S => genOp P S o
    | _ => .mk fun m S => none
  | _ => .mk fun m S => readOp P G m S o
theorem onO_eq (x : Option AV) (f : AV → Option AV) : onO f x = on1 x f := by cases x <;> rfl
theorem orGen_eq (S : AE) (o : Oper) (x : Option AV) : Option.rec (motive := fun _ => Option AV) (genOp P S o) (fun r => some r) x = orGen P S o x := by cases x <;> rfl
theorem readD_eq (o : Oper) (m : AM) (S : AE) : (readD P G o).un m S = readOp P G m S o := by
  obtain ⟨dst, op, ty, pos, aft, guard⟩ := o
  cases op <;> simp only [readD, readOp, Dec.un_mk, Dec.un_go, opD_eq, binOpD_eq, loadD_eq, faD_eq, onO_eq, orGen_eq]
  rename_i c
  cases hc : c.callee <;> simp only [Dec.un_mk]
  rename_i b
  cases b <;> simp only [Dec.un_mk]

noncomputable def rdR (m : AM) (r : Option AV) : R2 := Option.rec none (fun a => some (a, m)) r
theorem rdR_eq (m : AM) (r : Option AV) : rdR m r = rd m r := by cases r <;> rfl

noncomputable def callYD (call : FuncId → List AV → AM → R2) (m : AM) (S : AE) (x : Operand) (args : List Operand) (r : Option AV) : R2 :=
  match r with
  | some (.yl id) => match opnds S args with
    | some asx => call YF (.yl id :: asx) m
    | none => none
  | _ => callOp P call m (callee S x args)
theorem callYD_eq (call : FuncId → List AV → AM → R2) (m : AM) (S : AE) (x : Operand) (args : List Operand) : callYD P call m S x args (opnd S x) = callY P call m S x args := rfl
/-- An operation. -/
noncomputable def effD (o : Oper) : Dec ((FuncId → List AV → AM → R2) → AM → AE → R2) :=
  match o.op with
  | .binOp op t x y _ => (binOpD P o op t x y).go fun f => .mk fun call m S => rdR m (f S)
  | .load t x => (opD x).go fun f => (loadD P G t).go fun g => .mk fun call m S => rdR m (onO (fun a => g m a) (f S))
  | .store t x y => (opD x).go fun fx => (opD y).go fun fy => .mk fun call m S => storeOp P m t (fx S) (fy S)
  | .alloc t => .mk fun call m S => allocOp P m t
  | .box _ x => (opD x).go fun fx => .mk fun call m S => boxOp m (fx S)
  | .convert src dst x => (opD x).go fun fx => .mk fun call m S => on1r (fx S) (convA P m src dst)
  | .call c => match c.callee with
    | .value x => (opD x).go fun fx => .mk fun call m S => callYD P call m S x c.args.toList (fx S)
    | _ => .mk fun call m S => effOp P G call m S o
  | .buildSlice _ _ _ => .mk fun call m S => effOp P G call m S o
  | .makeMap _ _ => .mk fun call m S => effOp P G call m S o
  | .makeSlice _ _ _ => .mk fun call m S => effOp P G call m S o
  | .mapUpdate _ _ _ _ => .mk fun call m S => effOp P G call m S o
  | .insert _ _ _ _ => .mk fun call m S => effOp P G call m S o
  | .mapEntry _ _ _ => .mk fun call m S => effOp P G call m S o
  | .entryStore _ _ _ _ => .mk fun call m S => effOp P G call m S o
  | .range _ _ => .mk fun call m S => effOp P G call m S o
  | .next _ _ => .mk fun call m S => effOp P G call m S o
  | _ => (readD P G o).go fun f => .mk fun call m S => rdR m (f m S)
theorem effD_eq (o : Oper) (call : FuncId → List AV → AM → R2) (m : AM) (S : AE) : (effD P G o).un call m S = effY P G call m S o := by
  obtain ⟨dst, op, ty, pos, aft, guard⟩ := o
  cases op <;> simp only [effD, effY, effOp, callYD_eq, Dec.un_mk, Dec.un_go, opD_eq, binOpD_eq, loadD_eq, readD_eq, rdR_eq, onO_eq]
  rename_i c
  cases hc : c.callee <;> simp only [Dec.un_mk, Dec.un_go, opD_eq, callYD_eq, effOp, hc]

/-- An operation in its row. -/
noncomputable def stepD (N : Nat) (ops : List Oper) (o : Oper) : Dec ((FuncId → List AV → AM → R2) → AE → AM → Option (AE × AM)) :=
  match o.guard with
  | none => match o.dst with
    | none => (effD P G o).go fun f => .mk fun call S m => onO (fun q => Prod.rec (fun a m' => some (S, m')) q) (f call m S)
    | some d => bif Nat.ble (d + 1) N then ((effD P G o).go fun f => (setD d).go fun g => .mk fun call S m => onO (fun q => Prod.rec (fun a m' => some (g S (some a), m')) q) (f call m S))
      else .mk fun call S m => none
  | some _ => .mk fun call S m => oneStep P G call N ops o S m
theorem stepD_eq (N : Nat) (ops : List Oper) (o : Oper) (call : FuncId → List AV → AM → R2) (S : AE) (m : AM) : (stepD P G N ops o).un call S m = oneStep P G call N ops o S m := by
  obtain ⟨dst, op, ty, pos, aft, guard⟩ := o
  cases guard with
  | some g => rfl
  | none =>
    cases dst with
    | none =>
      simp only [stepD, oneStep, wantedA, Dec.un_mk, Dec.un_go, effD_eq, putR, putA]
      cases effY P G call m S ⟨none, op, ty, pos, aft, none⟩ <;> rfl
    | some d =>
      simp only [stepD, oneStep, wantedA, putR, putA]
      cases Nat.ble (d + 1) N with
      | true =>
        simp only [cond_true, Dec.un_mk, Dec.un_go, effD_eq, setD_eq]
        cases effY P G call m S ⟨some d, op, ty, pos, aft, none⟩ <;> rfl
      | false =>
        simp only [cond_false, Dec.un_mk]
        cases effY P G call m S ⟨some d, op, ty, pos, aft, none⟩ <;> rfl

noncomputable def opsD (N : Nat) (ops : List Oper) (l : List Oper) : Dec ((FuncId → List AV → AM → R2) → AE → AM → Option (AE × AM)) :=
  List.rec (.mk fun call S m => some (S, m)) (fun o _ ih => (stepD P G N ops o).go fun f => ih.go fun g => .mk fun call S m => onO (fun q => Prod.rec (fun S' m' => g call S' m') q) (f call S m)) l
theorem opsD_eq (N : Nat) (ops : List Oper) (call : FuncId → List AV → AM → R2) : ∀ (l : List Oper) (S : AE) (m : AM), (opsD P G N ops l).un call S m = runOps P G call N ops l S m
  | [], S, m => rfl
  | o :: l, S, m => by
    rw [runOps_cons]
    show ((stepD P G N ops o).go fun f => (opsD P G N ops l).go fun g => .mk fun call S m => onO (fun q => Prod.rec (fun S' m' => g call S' m') q) (f call S m)).un call S m = _
    rw [Dec.un_go, Dec.un_go, Dec.un_mk, stepD_eq]
    cases h : oneStep P G call N ops o S m with
    | none => rfl
    | some q => exact opsD_eq N ops call l q.1 q.2

/-! ### Plans -/
noncomputable def rdStepD (N : Nat) (ops : List Oper) (i : Nat) (o : Oper) : Dec (Done → AE → AM → Option (Done × AE)) :=
  match o.guard with
  | none => match o.dst with
    | none => (readD P G o).go fun f => match looks o.op with
      | true => .mk fun D S m => onO (fun a => some ((i, S, o, a) :: D, S)) (f m S)
      | false => .mk fun D S m => onO (fun a => some (D, S)) (f m S)
    | some d => bif Nat.ble (d + 1) N then ((readD P G o).go fun f => (setD d).go fun g => match looks o.op with
        | true => .mk fun D S m => onO (fun a => some ((i, S, o, a) :: D, g S (some a))) (f m S)
        | false => .mk fun D S m => onO (fun a => some (D, g S (some a))) (f m S))
      else .mk fun D S m => none
  | some _ => .mk fun D S m => readStep P G N ops i o D S m
theorem rdStepD_eq (N : Nat) (ops : List Oper) (i : Nat) (o : Oper) (D : Done) (S : AE) (m : AM) : (rdStepD P G N ops i o).un D S m = readStep P G N ops i o D S m := by
  obtain ⟨dst, op, ty, pos, aft, guard⟩ := o
  cases guard with
  | some g => rfl
  | none =>
    cases dst with
    | none =>
      simp only [rdStepD, readStep, wantedA, putA]
      cases looks op <;> simp only [Dec.un_mk, Dec.un_go, readD_eq, cond_true, cond_false] <;> cases readOp P G m S ⟨none, op, ty, pos, aft, none⟩ <;> rfl
    | some d =>
      simp only [rdStepD, readStep, wantedA, putA]
      cases Nat.ble (d + 1) N with
      | true => cases looks op <;> simp only [Dec.un_mk, Dec.un_go, readD_eq, setD_eq, cond_true, cond_false] <;> cases readOp P G m S ⟨some d, op, ty, pos, aft, none⟩ <;> rfl
      | false => simp only [cond_false, Dec.un_mk]; cases readOp P G m S ⟨some d, op, ty, pos, aft, none⟩ <;> rfl

noncomputable def planStD (N : Nat) (ops : List Oper) (M : List Nat) (x : Nat × Bool) : Dec ((FuncId → List AV → AM → R2) → (Done → AE → AM → Option (AE × AM)) → Done → AE → AM → Option (AE × AM)) :=
  match nth? ops x.1 with
  | some o => match x.2 with
    | true => (rdStepD P G N ops x.1 o).go fun f => .mk fun call ih D S m => onO (fun q => Prod.rec (fun D S => ih D S m) q) (f D S m)
    | false => (stepD P G N ops o).go fun f => .mk fun call ih D S m => onO (fun q => Prod.rec (fun S m => List.rec (ih D S m) (fun _ _ _ => bif still P G M x.1 m D then ih D S m else none) D) q) (f call S m)
  | none => .mk fun call ih D S m => none
theorem planStD_eq (N : Nat) (ops : List Oper) (M : List Nat) (x : Nat × Bool) (call : FuncId → List AV → AM → R2) (ih : Done → AE → AM → Option (AE × AM)) (D : Done) (S : AE) (m : AM) : (planStD P G N ops M x).un call ih D S m = planStep P G call N ops M ih x D S m := by
  simp only [planStD, planStep]
  cases nth? ops x.1 with
  | none => rfl
  | some o =>
    cases x.2 with
    | true =>
      simp only [Dec.un_mk, Dec.un_go, rdStepD_eq, thenRead]
      cases readStep P G N ops x.1 o D S m <;> rfl
    | false =>
      simp only [Dec.un_mk, Dec.un_go, stepD_eq, thenEff]
      cases oneStep P G call N ops o S m with
      | none => rfl
      | some q => cases D <;> rfl
noncomputable def planD (N : Nat) (ops : List Oper) (M : List Nat) (l : List (Nat × Bool)) : Dec ((FuncId → List AV → AM → R2) → Done → AE → AM → Option (AE × AM)) :=
  List.rec (.mk fun call _ S m => some (S, m)) (fun x _ ih => (planStD P G N ops M x).go fun f => ih.go fun g => .mk fun call D S m => f call (g call) D S m) l
theorem planD_eq (N : Nat) (ops : List Oper) (M : List Nat) (call : FuncId → List AV → AM → R2) : ∀ (l : List (Nat × Bool)), (planD P G N ops M l).un call = runPlan P G call N ops M l
  | [] => rfl
  | x :: l => by
    funext D S m
    show ((planStD P G N ops M x).go fun f => (planD P G N ops M l).go fun g => .mk fun call D S m => f call (g call) D S m).un call D S m = planStep P G call N ops M (runPlan P G call N ops M l) x D S m
    rw [Dec.un_go, Dec.un_go, Dec.un_mk, planStD_eq, planD_eq N ops M call l]

variable (plans : Ord) (X : Specs)
noncomputable def nrmR (r : Option (AE × AM)) : R3 := onO (fun q => Prod.rec (fun S m => some (.normal, S, m)) q) r
theorem nrmR_eq (r : Option (AE × AM)) : nrmR r = nrm r := by cases r <;> rfl
noncomputable def regD (f : FuncId) (N : Nat) (id : Nat) (ops : List Oper) (draw : Bool) : Dec ((FuncId → List AV → AM → R2) → AE → AM → R3) :=
  match draw with
  | false => (opsD P G N ops ops).go fun g => .mk fun call S m => nrmR (g call S m)
  | true => match plans f id with
    | some p => match p.2.2 with
      | none => (planD P G N ops p.2.1 p.1).go fun g => .mk fun call S m => nrmR (g call [] S m)
      | some _ => .mk fun call S m => planK P G call N ops p S m
    | none => .mk fun call S m => none
theorem regD_eq (f : FuncId) (N : Nat) (id : Nat) (ops : List Oper) (draw : Bool) (ih : Rec) (S : AE) (m : AM) : (regD P G plans f N id ops draw).un (callK2 P G plans X ih) S m = regionK P G plans X ih f N id ops draw S m := by
  cases draw with
  | false => simp only [regD, regionK, Dec.un_mk, Dec.un_go, opsD_eq, nrmR_eq]
  | true =>
    simp only [regD, regionK]
    cases plans f id with
    | none => rfl
    | some p =>
      obtain ⟨a, b, c⟩ := p
      cases c with
      | none => simp only [Dec.un_mk, Dec.un_go, planD_eq, planK, nrmR_eq]
      | some x => rfl

noncomputable def seqR (ih : Rec) (f : FuncId) (N : Nat) (b : Code) (r : R3) : R3 :=
  onO (fun q => Prod.rec (motive := fun _ => R3) (fun e q => Prod.rec (motive := fun _ => R3) (fun S m => Ex.rec (motive := fun _ => R3) (ih f N b S m) (fun id => some (.exit id, S, m)) (some (.ret, S, m)) e) q) q) r
theorem seqR_eq (ih : Rec) (f : FuncId) (N : Nat) (b : Code) (r : R3) : seqR ih f N b r = seqK ih f N b r := by
  cases r with
  | none => rfl
  | some q => obtain ⟨e, S, m⟩ := q; cases e <;> rfl
noncomputable def codeD (f : FuncId) (N : Nat) (c : Code) : Dec (Rec → AE → AM → R3) :=
  match c with
  | .skip => .mk fun ih S m => some (.normal, S, m)
  | .label _ => .mk fun ih S m => some (.normal, S, m)
  | .ret => .mk fun ih S m => some (.ret, S, m)
  | .exit id => .mk fun ih S m => some (.exit id, S, m)
  | .seq a b => .mk fun ih S m => seqR ih f N b (ih f N a S m)
  | .cond x a b => (opD x).go fun fx => .mk fun ih S m => onO (fun v => onBool (fun t => Bool.rec (ih f N b S m) (ih f N a S m) t) none v) (fx S)
  | .block id b => .mk fun ih S m => blockK id (ih f N b S m)
  | .loop b => .mk fun ih S m => seqR ih f N (.loop b) (ih f N b S m)
  | .region id ops draw => (regD P G plans f N id ops.toList draw).go fun g => .mk fun ih S m => g (callK2 P G plans X ih) S m
  | c => .mk fun ih S m => stepC P G plans X ih f N c S m
theorem condR_eq (ih : Rec) (f : FuncId) (N : Nat) (a b : Code) (S : AE) (m : AM) (x : Option AV) : onO (fun v => onBool (fun t => Bool.rec (motive := fun _ => R3) (ih f N b S m) (ih f N a S m) t) none v) x = condK ih f N a b S m x := by
  cases x with
  | none => rfl
  | some v => cases v <;> try rfl
              rename_i t; cases t <;> rfl
theorem codeD_eq (f : FuncId) (N : Nat) (c : Code) (ih : Rec) (S : AE) (m : AM) : (codeD P G plans X f N c).un ih S m = stepC P G plans X ih f N c S m := by
  cases c <;> simp only [codeD, stepC, Dec.un_mk, Dec.un_go, opD_eq, regD_eq, seqR_eq, condR_eq]

/-- The reckoner, taken apart ahead. -/
noncomputable def execD (fuel : Nat) : Rec := Nat.rec (fun _ _ _ _ _ => none) (fun _ ih f N c S m => Dec.rec (fun g => g ih S m) (codeD P G plans X f N c)) fuel
theorem execD_eq : ∀ n, execD P G plans X n = exec P G plans X n
  | 0 => rfl
  | n + 1 => by
    rw [exec_succ, ← execD_eq n]
    funext f N c S m
    show (Dec.rec (fun g => g (execD P G plans X n) S m) (codeD P G plans X f N c) : R3) = _
    rw [← codeD_eq P G plans X f N c (execD P G plans X n) S m]
    cases codeD P G plans X f N c; rfl
end
end Go.Ev
