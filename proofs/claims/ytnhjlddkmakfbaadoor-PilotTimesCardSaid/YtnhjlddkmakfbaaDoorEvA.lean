/-
  Ev, part A: a reckoner of closed calls: what a call without open inputs does, over names of blocks instead of blocks. Definitions only. Conditions: none.
-/
import Derived.Test.YtnhjlddkmakfbaaDoorSxD
namespace Go.Ev
open Go.Sx
set_option linter.unusedVariables false

/-! ### Tables by number -/
inductive Tr (α : Type) where
  | nil
  | node (v : Option α) (a b c d : Tr α)

namespace Tr
variable {α : Type}
noncomputable def pick {β : Type} (i : Nat) (a b c d : β) : β := Nat.rec a (fun i _ => Nat.rec b (fun i _ => Nat.rec c (fun _ _ => d) i) i) i
noncomputable def get (t : Tr α) : Nat → Option α :=
  Tr.rec (fun _ => none) (fun v _ _ _ _ g0 g1 g2 g3 n => Nat.rec v (fun k _ => pick (Nat.mod k 4) (g0 (Nat.div k 4)) (g1 (Nat.div k 4)) (g2 (Nat.div k 4)) (g3 (Nat.div k 4))) n) t
noncomputable def put (d : Nat) : Tr α → Nat → Option α → Tr α :=
  Nat.rec (fun t _ _ => t) (fun _ ih t n x => Tr.rec
    (Nat.rec (.node x .nil .nil .nil .nil) (fun k _ => pick (Nat.mod k 4) (.node none (ih .nil (Nat.div k 4) x) .nil .nil .nil) (.node none .nil (ih .nil (Nat.div k 4) x) .nil .nil) (.node none .nil .nil (ih .nil (Nat.div k 4) x) .nil) (.node none .nil .nil .nil (ih .nil (Nat.div k 4) x))) n)
    (fun v a b c d _ _ _ _ => Nat.rec (.node x a b c d) (fun k _ => pick (Nat.mod k 4) (.node v (ih a (Nat.div k 4) x) b c d) (.node v a (ih b (Nat.div k 4) x) c d) (.node v a b (ih c (Nat.div k 4) x) d) (.node v a b c (ih d (Nat.div k 4) x))) n) t) d
noncomputable def set (t : Tr α) (n : Nat) (x : Option α) : Tr α := put (n + 1) t n x
end Tr

/-! ### Values over names -/
inductive AV where
  | num (k : IntKind) (n : Nat)
  | bool (b : Bool)
  | flat (v : Value)
  | ptr (id off : Nat)
  | sl (id off len cap : Nat) (kn : Bool)
  | se (id off off' sub : Nat)
  | mp (id : Nat)
  | fn (f : FuncId) (fst cap : List AV)
  | agg (cs : List AV)
  | tup (cs : List AV)

inductive Blk where
  | cells (cs : List AV)
  | buf (cs : List AV) (esz : Nat)
  | map (es : List (Value × AV × Nat)) (clock : Nat)
  | iter (mid since : Nat) (seen : List Nat) (last : Nat)
  | siter (s : ByteArray) (pos : Nat)

structure AM where
  bl : Tr Blk
  next : Nat

abbrev AE := Tr AV

noncomputable section
def AM.get (m : AM) (id : Nat) : Option Blk := m.bl.get id
def AM.set (m : AM) (id : Nat) (b : Blk) : AM := ⟨m.bl.set id (some b), m.next⟩
def AM.del (m : AM) (id : Nat) : AM := ⟨m.bl.set id none, m.next⟩
def AM.new (m : AM) (b : Blk) : AM := ⟨m.bl.set m.next (some b), m.next + 1⟩

end

def over {α : Type} : List α → List α → List α
  | [], cs => cs
  | _ :: _, [] => []
  | v :: vs, _ :: cs => v :: over vs cs
def splice {α : Type} : Nat → List α → List α → List α
  | 0, vs, cs => over vs cs
  | _ + 1, _, [] => []
  | n + 1, vs, c :: cs => c :: splice n vs cs

/-- A value that bears no name. -/
def ofInt (k : IntKind) : Int → AV
  | .ofNat n => .num k n
  | .negSucc n => .flat (.int k (.negSucc n))
def lift : Value → AV
  | .int k n => ofInt k n
  | .bool b => .bool b
  | v => .flat v

def cellsOf : AV → List AV
  | .flat v => match v with
    | .agg cs => cs.toList.map lift
    | v => [.flat v]
  | .agg cs => cs
  | a => [a]

def flat1 : AV → Option Value
  | .flat v => some v
  | .num k n => some (.int k (.ofNat n))
  | .bool b => some (.bool b)
  | _ => none

def flats : List AV → Option (List Value)
  | [] => some []
  | a :: l => match flat1 a with
    | some v => match flats l with
      | some vs => some (v :: vs)
      | none => none
    | none => none

def flatOf : AV → Option Value
  | .flat v => some v
  | .num k n => some (.int k (.ofNat n))
  | .bool b => some (.bool b)
  | .agg cs => match flats cs with
    | some vs => some (.agg vs.toArray)
    | none => none
  | _ => none

def oneA : AV → Bool
  | .flat v => oneB v
  | .agg _ => false
  | .tup _ => false
  | _ => true
def onesA : List AV → Bool
  | [] => true
  | a :: l => bif oneA a then onesA l else false

noncomputable section
variable (P : Program) (G : Nat → Option (List Value))

def opnd (S : AE) : Operand → Option AV
  | .tmp t => S.get t
  | .const v => some (lift v)
  | .global g => some (.flat (.pointer (some ⟨g, 0, none⟩)))
  | .func f => some (.flat (.func (.func f) #[] #[]))

def opnds (S : AE) : List Operand → Option (List AV)
  | [] => some []
  | x :: l => match opnd S x with
    | some a => match opnds S l with
      | some as => some (a :: as)
      | none => none
    | none => none

/-- An operand's value, where it bears no name. -/
def fopnd (S : AE) (x : Operand) : Value := match opnd S x with
  | some a => match flatOf a with
    | some v => v
    | none => undef
  | none => undef

def flatOps (S : AE) : List Operand → Bool
  | [] => true
  | x :: l => match opnd S x with
    | some a => match flatOf a with
      | some _ => flatOps S l
      | none => false
    | none => false

/-- An operation of plain values, by its own text. -/
def genOp (S : AE) (o : Oper) : Option AV :=
  bif isSelect o.op then none else
  bif flatOps S o.op.operands.toList then
    match drive P (execOp (fopnd S) o) [] with
    | some (ns, v) => match ns with
      | [] => some (lift v)
      | _ => none
    | none => none
  else none

/-- Is a type's value many cells, and how many? -/
def aggSize (t : TypeId) : Option (Option Nat) :=
  match P.underlying t with
  | some (.struct _) => match P.info? t with | some i => some (some i.size) | none => none
  | some (.array _ _) => match P.info? t with | some i => some (some i.size) | none => none
  | some _ => some none
  | none => none

def cut? (cs : List AV) (off n : Nat) : Option (List AV) :=
  bif Nat.ble (off + n) cs.length then some ((cs.drop off).take n) else none

def partA (t : TypeId) (cs : List AV) (off : Nat) : Option AV :=
  match aggSize P t with
  | some (some n) => match cut? cs off n with | some l => some (.agg l) | none => none
  | some none => cs[off]?
  | none => none

def cellsAt (m : AM) (id : Nat) : Option (List AV) :=
  match m.get id with
  | some (.cells cs) => some cs
  | some (.buf cs _) => some cs
  | _ => none

def loadA (m : AM) (t : TypeId) (a : AV) : Option AV :=
  match a with
  | .ptr id off => match cellsAt m id with
    | some cs => partA P t cs off
    | none => none
  | .flat (.pointer (some ⟨g, off, none⟩)) => match G g with
    | some vs => partA P t (vs.map lift) off
    | none => none
  | _ => none

def withCells (m : AM) (id : Nat) (f : List AV → List AV) : Option AM :=
  match m.get id with
  | some (.cells cs) => some (m.set id (.cells (f cs)))
  | some (.buf cs z) => some (m.set id (.buf (f cs) z))
  | _ => none

def storeCellsA (m : AM) (id off : Nat) (vs : List AV) : Option AM :=
  match cellsAt m id with
  | some cs => bif Nat.ble (off + vs.length) cs.length then (bif onesA vs then withCells m id (splice off vs) else none) else none
  | none => none

def storeA (m : AM) (t : TypeId) (a v : AV) : Option AM :=
  match a with
  | .ptr id off => match P.info? t with
    | some i => bif Nat.beq (cellsOf v).length i.size then storeCellsA m id off (cellsOf v) else none
    | none => none
  | _ => none

def zeroOf (t : TypeId) : Option (List AV) :=
  match P.info? t with
  | some i => match i.zero with
    | some z => some (cellsOf (lift z))
    | none => none
  | none => none

def fillA (place : Nat → Option (Nat × Nat)) (cells : List AV) : List (Nat × AV) → Option (List AV)
  | [] => some cells
  | (i, v) :: rest =>
    match place i with
    | none => none
    | some (off, size) =>
      bif Nat.beq (cellsOf v).length size && Nat.ble (off + (cellsOf v).length) cells.length then fillA place (splice off (cellsOf v) cells) rest else none

def partsA (S : AE) : List (Nat × Operand) → Option (List (Nat × AV))
  | [] => some []
  | (i, x) :: l => match opnd S x with
    | some a => match partsA S l with
      | some as => some ((i, a) :: as)
      | none => none
    | none => none

def places (fs : List Field) : Option (List (Nat × Nat)) :=
  match fs with
  | [] => some []
  | f :: l => match P.info? f.type with
    | some i => match places l with
      | some ps => some ((f.offset, i.size) :: ps)
      | none => none
    | none => none

def buildA (S : AE) (t : TypeId) (parts : List (Nat × Operand)) : Option AV :=
  match zeroOf P t, partsA S parts, P.underlying t with
  | some z, some ps, some (.struct fields) => match places P fields.toList with
    | some pl => match fillA (pl[·]?) z ps with
      | some cs => some (.agg cs)
      | none => none
    | none => none
  | some z, some ps, some (.array _ e) => match P.info? e with
    | some ie => match fillA (fun i => some (i * ie.size, ie.size)) z ps with
      | some cs => some (.agg cs)
      | none => none
    | none => none
  | _, _, _ => none

def rep {α : Type} : Nat → List α → List α
  | 0, _ => []
  | n + 1, z => z ++ rep n z

/-- The cells of a slice literal. -/
def buildCells (S : AE) (t : TypeId) (len : Nat) (parts : List (Nat × Operand)) : Option (List AV) :=
  match P.underlying t with
  | some (.slice e) => match P.info? e, zeroOf P e, partsA S parts with
    | some ie, some z, some ps =>
      bif Nat.ble (len * ie.size) 16777216 && Nat.beq z.length ie.size && Nat.ble 1 ie.size then
        fillA (fun i => some (i * ie.size, ie.size)) (rep len z) ps
      else none
    | _, _, _ => none
  | _ => none
def buildSliceA (S : AE) (m : AM) (t : TypeId) (len : Nat) (parts : List (Nat × Operand)) : Option (AV × AM) :=
  match buildCells P S t len parts with
  | some cs => some (.sl m.next 0 len len true, m.new (.cells cs))
  | none => none

def intOf? : AV → Option Nat
  | .num _ n => some n
  | _ => none

def makeSliceA (m : AM) (t : TypeId) (l c : AV) : Option (AV × AM) :=
  match P.underlying t, intOf? l, intOf? c with
  | some (.slice e), some l, some c => match P.info? e, zeroOf P e with
    | some ie, some z =>
      bif Nat.ble l c && Nat.ble c 1000000 && Nat.ble (ie.bytes * c) 281474976710656 && Nat.beq z.length ie.size && Nat.ble 1 ie.size then
        some (.sl m.next 0 l c true, m.new (.cells (rep c z)))
      else none
    | _, _ => none
  | _, _, _ => none

def indexAddrA (t : TypeId) (x i : AV) : Option AV :=
  match intOf? i with
  | some n => match P.underlying t, x with
    | some (.slice e), .sl id off len _ _ => match P.info? e with
      | some ie => bif Nat.ble (n + 1) len then some (.ptr id (off + n * ie.size)) else none
      | none => none
    | some (.array len e), .ptr id off => match P.info? e with
      | some ie => bif Nat.ble (n + 1) len then some (.ptr id (off + n * ie.size)) else none
      | none => none
    | _, _ => none
  | none => none

def indexA (t : TypeId) (x i : AV) : Option AV :=
  match intOf? i, x with
  | some n, .agg cs => match P.underlying t with
    | some (.array len e) => match P.info? e with
      | some ie => bif Nat.ble (n + 1) len then partA P e cs (n * ie.size) else none
      | none => none
    | _ => none
  | _, _ => none

def fieldAddrA (t : TypeId) (x : AV) (f : Nat) : Option AV :=
  match x, P.underlying t with
  | .ptr id off, some (.struct fields) => match fields.toList[f]? with
    | some fd => match P.info? fd.type with
      | some i => bif Nat.beq i.size 0 then none else some (.ptr id (off + fd.offset))
      | none => none
    | none => none
  | _, _ => none

def fieldA (t : TypeId) (x : AV) (f : Nat) : Option AV :=
  match x, P.underlying t with
  | .agg cs, some (.struct fields) => match fields.toList[f]? with
    | some fd => partA P fd.type cs fd.offset
    | none => none
  | _, _ => none

/-- A bound of a slice expression. -/
def boundA (S : AE) (d : Nat) : Option Operand → Option Nat
  | none => some d
  | some x => match opnd S x with
    | some a => intOf? a
    | none => none

def resl (id off len cap : Nat) (kn : Bool) (size l h : Nat) : Option AV :=
  match kn with
  | true => bif Nat.ble l h && Nat.ble h cap then some (.sl id (bif Nat.beq cap l then off else off + l * size) (h - l) (cap - l) true) else none
  | false => bif Nat.ble l h && Nat.ble h len then
      (bif Nat.beq l 0 then some (.sl id off h cap false) else
        bif Nat.beq l h then some (.se id off (off + l * size) (cap + l)) else some (.sl id (off + l * size) (h - l) (cap + l) false))
    else none

def sliceA (S : AE) (t : TypeId) (x : AV) (lo hi : Option Operand) : Option AV :=
  match P.underlying t, x with
  | some (.array n e), .ptr id off => match P.info? e, boundA S 0 lo, boundA S n hi with
    | some ie, some l, some h => resl id off n n true ie.size l h
    | _, _, _ => none
  | some (.slice e), .sl id off len cap kn => match P.info? e, boundA S 0 lo, boundA S len hi with
    | some ie, some l, some h => resl id off len cap kn ie.size l h
    | _, _, _ => none
  | some (.slice e), .se id o1 o2 sub => match P.info? e, boundA S 0 lo, boundA S 0 hi with
    | some _, some 0, some 0 => some (.se id o1 o2 sub)
    | _, _, _ => none
  | _, _ => none

/-- The elements that a slice or a string reads. -/
def readsA (m : AM) (size n : Nat) : AV → Option (List AV)
  | .sl id off _ _ _ => match cellsAt m id with
    | some cs => cut? cs off (n * size)
    | none => none
  | .se _ _ _ _ => bif Nat.beq n 0 then some [] else none
  | .flat (.slice none _ _) => bif Nat.beq n 0 then some [] else none
  | .flat (.string s) => bif Nat.beq size 1 then (if decide (n ≤ s.size) = true then some ((s.data.toList.take n).map fun b => .num .u8 b.toNat) else none) else none
  | _ => none

def lenA : AV → Option Nat
  | .sl _ _ len _ _ => some len
  | .se _ _ _ _ => some 0
  | .flat (.slice _ len _) => some len
  | .flat (.string s) => some s.size
  | _ => none

/-- A place of one's own, for what a new row may be grown to. -/
def growA (m : AM) (cs : List AV) (n size : Nat) : AV × AM := (.sl m.next 0 n 0 false, m.new (.buf cs size))

def isIntT : Option TypeDesc → Bool
  | some (.int _) => true
  | _ => false

/-- What is appended: how many elements, and their cells. -/
def appNews (m : AM) (zeros : Bool) (ie : TypeInfo) (z : List AV) (x : AV) : Option (Nat × List AV) :=
  match zeros with
  | true => match intOf? x with
    | some n => bif Nat.ble (n * (ie.bytes + 1)) 1000000000 then some (n, rep n z) else none
    | none => none
  | false => match lenA x with
    | some n => match readsA m ie.size n x with
      | some l => bif onesA l then some (n, l) else none
      | none => none
    | none => none

def appTo (m : AM) (size bytes : Nat) (s : AV) (n : Nat) (news : List AV) : Option (AV × AM) :=
  match s with
  | .flat (.slice none 0 0) => bif Nat.ble (n * (bytes + 1)) 1000000000 then (bif Nat.beq n 0 then some (s, m) else some (growA m news n size)) else none
  | .sl id off len cap kn => bif Nat.ble ((len + n) * (bytes + 1)) 1000000000 then
      match kn with
      | false => match m.get id with
        | some (.buf cs z) => bif Nat.beq z size && Nat.beq off 0 && Nat.beq cap 0 && Nat.ble (len * size) cs.length then some (growA (m.del id) (cs.take (len * size) ++ news) (len + n) size) else none
        | _ => none
      | true => bif Nat.ble (len + n) cap then
          match storeCellsA m id (off + len * size) news with
          | some m' => some (.sl id off (len + n) cap true, m')
          | none => none
        else match readsA m size len (.sl id off len cap true) with
          | some old => some (growA m (old ++ news) (len + n) size)
          | none => none
    else none
  | _ => none

def appendA (m : AM) (ts : List TypeId) (args : List AV) : Option (AV × AM) :=
  match ts, args with
  | t :: t' :: _, [s, x] => match P.underlying t, P.underlying t' with
    | some (.slice e), some d => match P.info? e, zeroOf P e with
      | some ie, some z => bif Nat.beq z.length ie.size && Nat.ble 1 ie.size && onesA z then
        match appNews m (isIntT (some d)) ie z x with
        | some (n, news) => appTo m ie.size ie.bytes s n news
        | none => none
        else none
      | _, _ => none
    | _, _ => none
  | _, _ => none

def copyA (m : AM) (ts : List TypeId) (args : List AV) : Option (AV × AM) :=
  match ts, args with
  | t :: _, [d, x] => match P.underlying t with
    | some (.slice e) => match P.info? e, lenA d, lenA x with
      | some ie, some dl, some xl =>
        match readsA m ie.size (min xl dl) x, d with
        | some new, .sl id off _ _ _ => match storeCellsA m id off new with
          | some m' => some (.num .i64 (min xl dl), m')
          | none => none
        | _, _ => none
      | _, _, _ => none
    | _ => none
  | _, _ => none

def lenOp (m : AM) (ts : List TypeId) (args : List AV) : Option AV :=
  match ts, args with
  | [t], [x] => match P.underlying t, x with
    | some (.slice _), .sl _ _ len _ _ => some (.num .i64 len)
    | some (.slice _), .se _ _ _ _ => some (.num .i64 0)
    | some (.map _ _), .mp id => match m.get id with
      | some (.map es _) => some (.num .i64 es.length)
      | _ => none
    | some (.pointer arr), .ptr _ _ => match P.underlying arr with
      | some (.array n _) => some (.num .i64 n)
      | _ => none
    | some (.array n _), .agg _ => some (.num .i64 n)
    | _, _ => none
  | _, _ => none

/-! ### Maps -/
/-- A run that asks nothing of memory. -/
def driveP {α : Type} : Sem α → Option α
  | .pure a => some a
  | .program k => driveP (k P)
  | .mark _ k => driveP k
  | _ => none

def keysOf (es : List (Value × AV × Nat)) : List MapEntry := es.map fun e => ⟨e.1, undef, e.2.2⟩

/-- Where a key stands, by the model's own text. -/
def findA (kt : TypeId) (k : Value) (es : List (Value × AV × Nat)) : Option (Option Nat) :=
  match driveP P (Instr.findKey kt k (keysOf es)) with
  | some (some (i, _)) => some (some i)
  | some none => some none
  | none => none

def keyOK (em : Bool) (kt : TypeId) (k : Value) : Bool :=
  match driveP P (Instr.checkKey em 10000 kt k) with
  | some _ => true
  | none => false

def emptyL {α : Type} : List α → Bool
  | [] => true
  | _ => false

def lookupA (m : AM) (t : TypeId) (x k : AV) (ok : Bool) : Option AV :=
  match x, flatOf k, P.underlying t with
  | .mp id, some k, some (.map kt e) => match m.get id, P.info? e with
    | some (.map es _), some ie => bif keyOK P (emptyL es) kt k then
      match findA P kt k es, ie.zero with
      | some (some i), _ => match es[i]? with
        | some v => some (match ok with | true => .tup [v.2.1, .bool true] | false => v.2.1)
        | none => none
      | some none, some z => some (match ok with | true => .tup [lift z, .bool false] | false => lift z)
      | _, _ => none
      else none
    | _, _ => none
  | _, _, _ => none

def setNth {α : Type} : List α → Nat → (α → α) → List α
  | [], _, _ => []
  | a :: l, 0, f => f a :: l
  | a :: l, n + 1, f => a :: setNth l n f

/-- Is the key that stands the same, bit by bit? -/
def stays (es : List (Value × AV × Nat)) (i : Nat) (k : Value) : Bool :=
  match es[i]? with
  | some e => Instr.sameBits 10000 e.1 k
  | none => false

def updateA (m : AM) (t : TypeId) (x k v : AV) : Option AM :=
  match x, flatOf k, P.underlying t with
  | .mp id, some k, some (.map kt _) => match m.get id with
    | some (.map es clock) => bif keyOK P false kt k then
      match findA P kt k es with
      | some (some i) => bif stays es i k then some (m.set id (.map (setNth es i fun e => (k, v, e.2.2)) clock)) else none
      | some none => some (m.set id (.map (es ++ [(k, v, clock)]) (clock + 1)))
      | none => none
      else none
    | _ => none
  | _, _, _ => none

/-- 'm[k] op= v', its first half. -/
def mapEntryA (m : AM) (t : TypeId) (x k : AV) : Option (AV × AM) :=
  match x, flatOf k, P.underlying t with
  | .mp id, some k, some (.map kt e) => match m.get id, P.info? e with
    | some (.map es clock), some ie => bif keyOK P false kt k then
      match findA P kt k es, ie.zero with
      | some (some i), _ => match es[i]? with
        | some old => bif stays es i k then some (.tup [old.2.1, .num .i64 old.2.2], m.set id (.map (setNth es i fun e => (k, e.2.1, e.2.2)) clock)) else none
        | none => none
      | some none, some z => some (.tup [lift z, .num .i64 clock], m.set id (.map (es ++ [(k, lift z, clock)]) (clock + 1)))
      | _, _ => none
      else none
    | _, _ => none
  | _, _, _ => none

def bornAt (n : Nat) : List (Value × AV × Nat) → Nat → Option Nat
  | [], _ => none
  | e :: l, i => bif Nat.beq e.2.2 n then some i else bornAt n l (i + 1)

def entryStoreA (m : AM) (x st v : AV) : Option AM :=
  match x, st with
  | .mp id, .num _ n => match m.get id with
    | some (.map es clock) => match bornAt n es 0 with
      | some i => some (m.set id (.map (setNth es i fun e => (e.1, v, e.2.2)) clock))
      | none => none
    | _ => none
  | _, _ => none

def deleteA (m : AM) (ts : List TypeId) (args : List AV) : Option AM :=
  match ts, args with
  | t :: _, [.mp id, kk] => match P.underlying t, flatOf kk with
    | some (.map kt _), some k => match m.get id with
      | some (.map es clock) => bif keyOK P (emptyL es) kt k then
        match findA P kt k es with
        | some (some i) => some (m.set id (.map (es.eraseIdx i) clock))
        | some none => some m
        | none => none
        else none
      | _ => none
    | _, _ => none
  | _, _ => none

def clearA (m : AM) (ts : List TypeId) (args : List AV) : Option AM :=
  match ts, args with
  | t :: _, [.sl id off len cap kn] => match P.underlying t with
    | some (.slice e) => match P.info? e, zeroOf P e with
      | some ie, some z => bif Nat.beq z.length ie.size && Nat.ble 1 ie.size && Nat.ble 1 len then storeCellsA m id off (rep len z) else none
      | _, _ => none
    | _ => none
  | t :: _, [.mp id] => match m.get id, P.underlying t with
    | some (.map _ clock), some _ => some (m.set id (.map [] clock))
    | _, _ => none
  | _, _ => none

def arrayAtA (t : TypeId) (x : AV) : Option AV :=
  match P.underlying t, x with
  | some (.array n _), .sl id off len _ _ => bif Nat.ble n len then some (.ptr id off) else none
  | _, _ => none

def rangeA (m : AM) (t : TypeId) (x : AV) : Option (AV × AM) :=
  match P.underlying t, x with
  | some (.map _ _), .mp id => match m.get id with
    | some (.map _ clock) => some (.ptr m.next 0, m.new (.iter id clock [] clock))
    | _ => none
  | _, _ => none

def nextA (m : AM) (x : AV) (str : Bool) : Option (AV × AM) :=
  match x, str with
  | .ptr id 0, false => match m.get id with
    | some (.iter mid since seen last) => match m.get mid with
      | some (.map es clock) =>
        bif !seen.isEmpty && !es.isEmpty && es.all (fun e => Nat.ble last e.2.2) then none else
          match es.filter fun e => !seen.contains e.2.2 with
          | [] => some (.tup [.bool false], m)
          | [e] => bif Nat.ble (e.2.2 + 1) since then some (.tup [.bool true, lift e.1, e.2.1], m.set id (.iter mid since (seen ++ [e.2.2]) clock)) else none
          | _ => none
      | _ => none
    | _ => none
  | _, _ => none

def bornA (n : Nat) : List (Value × AV × Nat) → Option (Value × AV)
  | [] => none
  | e :: l => bif Nat.beq e.2.2 n then some (e.1, e.2.1) else bornA n l

def entryA (m : AM) (x : AV) : Option AV :=
  match x with
  | .ptr id 0 => match m.get id with
    | some (.iter mid _ seen stepped) => match m.get mid, seen.getLast? with
      | some (.map es clock), some stamp => bif Nat.beq clock stepped then
          match bornA stamp es with
          | some (k, v) => some (.tup [lift k, v])
          | none => none
        else none
      | _, _ => none
    | _ => none
  | _ => none

/-! ### Comparisons with nil; pointers -/
def isNilA : AV → Option Bool
  | .ptr _ _ => some false
  | .sl _ _ _ _ _ => some false
  | .se _ _ _ _ => some false
  | .mp _ => some false
  | .fn _ _ _ => some false
  | .flat (.pointer none) => some true
  | .flat (.slice none _ _) => some true
  | .flat (.map none) => some true
  | .flat .nilFunc => some true
  | .flat (.func _ _ _) => some false
  | .flat (.pointer (some _)) => some false
  | _ => none

def eqlA (x y : AV) : Option Bool :=
  match isNilA x, isNilA y with
  | some true, some b => some b
  | some b, some true => some b
  | some false, some false => match x, y with
    | .ptr a i, .ptr b j => bif Nat.beq a b then some (Nat.beq i j) else none
    | _, _ => none
  | _, _ => none

/-- The unsigned kinds' moduli. -/
def uMod : IntKind → Option Nat
  | .u8 => some 256
  | .u16 => some 65536
  | .u32 => some 4294967296
  | .u64 => some 18446744073709551616
  | _ => none

def forceN {R : Type} (n : Nat) (k : Nat → R) : R := match n with
  | 0 => k 0
  | m + 1 => k (Nat.succ m)

/-- An integer that was not wrapped yet: told in short words where that is easy. -/
def intN (k : IntKind) (n : Nat) : Option AV :=
  match k with
  | .i64 => bif Nat.ble n 9223372036854775807 then forceN n fun n => some (.num .i64 n) else none
  | .u64 => forceN (n % 18446744073709551616) fun n => some (.num .u64 n)
  | .u32 => forceN (n % 4294967296) fun n => some (.num .u32 n)
  | .u16 => forceN (n % 65536) fun n => some (.num .u16 n)
  | .u8 => forceN (n % 256) fun n => some (.num .u8 n)
  | .i32 => bif Nat.ble n 2147483647 then forceN n fun n => some (.num .i32 n) else none
  | _ => none

def bitsN (k : IntKind) (x y r : Nat) : Option AV :=
  match uMod k with
  | some M => bif Nat.ble (x + 1) M && Nat.ble (y + 1) M then forceN r fun n => some (.num k n) else none
  | none => none

/-- Two integers that are not negative. -/
def natBin (op : BinOp) (k : IntKind) (x y : Nat) : Option AV :=
  match op with
  | .add => intN k (x + y)
  | .sub => bif Nat.ble y x then intN k (x - y) else none
  | .mul => intN k (x * y)
  | .eql => some (.bool (Nat.beq x y))
  | .neq => some (.bool (!Nat.beq x y))
  | .lss => some (.bool (Nat.ble (x + 1) y))
  | .leq => some (.bool (Nat.ble x y))
  | .gtr => some (.bool (Nat.ble (y + 1) x))
  | .geq => some (.bool (Nat.ble y x))
  | .and => bitsN k x y (Nat.land x y)
  | .or => bitsN k x y (Nat.lor x y)
  | .xor => bitsN k x y (Nat.xor x y)
  | .rem => bif Nat.beq y 0 then none else forceN (x % y) fun n => some (.num k n)
  | .quo => bif Nat.beq y 0 then none else intN k (x / y)
  | _ => none

def kindNo : IntKind → Nat
  | .i8 => 0
  | .i16 => 1
  | .i32 => 2
  | .i64 => 3
  | .u8 => 4
  | .u16 => 5
  | .u32 => 6
  | .u64 => 7

def numBin (op : BinOp) (k : IntKind) (x : Nat) (k' : IntKind) (y : Nat) : Option AV :=
  match op with
  | .shl => intN k (x * 2 ^ (min y k.bits))
  | .shr => forceN (x / 2 ^ (min y k.bits)) fun n => some (.num k n)
  | op => bif Nat.beq (kindNo k) (kindNo k') then natBin op k x y else none

def binA (op : BinOp) (x y : AV) : Option AV :=
  match x with
  | .num k a => match y with
    | .num k' b => numBin op k a k' b
    | _ => none
  | _ => none

def shapeA : AV → Nat
  | .ptr _ _ => 1
  | .sl _ _ _ _ _ => 2
  | .se _ _ _ _ => 2
  | .mp _ => 3
  | .fn _ _ _ => 4
  | .flat v => match v with
    | .pointer _ => 1
    | .slice _ _ _ => 2
    | .map _ => 3
    | .nilFunc => 4
    | .func _ _ _ => 4
    | _ => 0
  | _ => 0

def shapeT (t : TypeId) : Nat :=
  match P.underlying t with
  | some (.pointer e) => match P.info? e with
    | some ie => bif Nat.beq ie.size 0 then 9 else 1
    | none => 9
  | some (.slice _) => 2
  | some (.map _ _) => 3
  | some (.func _ _ _) => 4
  | _ => 9

def nilEq (op : BinOp) (t : TypeId) (x y : AV) : Option AV :=
  bif Nat.beq (shapeA x) (shapeT P t) && Nat.beq (shapeA y) (shapeT P t) then
    match op, eqlA x y with
    | .eql, some b => some (.bool b)
    | .neq, some b => some (.bool (!b))
    | _, _ => none
  else none

def convA (m : AM) (src dst : TypeId) (x : AV) : Option (AV × AM) :=
  match P.underlying src, P.underlying dst, x with
  | some _, some (.int k), .num _ x => match intN k x with
    | some a => some (a, m)
    | none => some (ofInt k (k.wrap (.ofNat x)), m)
  | some _, some (.int k), .flat (.int _ n) => some (ofInt k (k.wrap n), m)
  | some (.slice e), some .string, x => match P.underlying e, x with
    | some (.int .u8), .sl id off len _ _ => match readsA m 1 len x with
      | some cs => match bytesOf cs with
        | some bs => some (.flat (.string ⟨bs.toArray⟩), m)
        | none => none
      | none => none
    | some (.int .u8), .se _ _ _ _ => some (.flat (.string ⟨#[]⟩), m)
    | some (.int .u8), .flat (.slice none _ _) => some (.flat (.string ⟨#[]⟩), m)
    | _, _ => none
  | some .string, some (.slice e), .flat (.string s) => match P.underlying e with
    | some (.int .u8) => bif Nat.ble s.size 1000000000 then some (growA m (s.data.toList.map fun b => .num .u8 b.toNat) s.size 1) else none
    | _ => none
  | some .string, some .string, .flat (.string s) => some (.flat (.string s), m)
  | _, _, _ => none
where
  bytesOf : List AV → Option (List UInt8)
    | [] => some []
    | a :: l => match a with
      | .num .u8 n => bif Nat.ble n 255 then match bytesOf l with
        | some bs => some (UInt8.ofNat n :: bs)
        | none => none
        else none
      | _ => none

def orGen (S : AE) (o : Oper) (r : Option AV) : Option AV :=
  match r with
  | some a => some a
  | none => genOp P S o

def pickA (S : AE) (c a b : Operand) : Option AV :=
  match opnd S c with
  | some (.bool t) => match t with
    | true => opnd S a
    | false => opnd S b
  | _ => none

def nilCheckA (x : Option AV) : Option AV :=
  match x with
  | some (.ptr a b) => some (.ptr a b)
  | some (.fn f a b) => some (.fn f a b)
  | some (.flat (.pointer (some a))) => some (.flat (.pointer (some a)))
  | some (.flat (.func (.func f) a b)) => some (.flat (.func (.func f) a b))
  | _ => none

def binOpA (S : AE) (o : Oper) (op : BinOp) (t : TypeId) (x y : Option AV) : Option AV :=
  match x, y with
  | some a, some b => match binA op a b with
    | some r => some r
    | none => orGen P S o (nilEq P op t a b)
  | _, _ => none

def makeFuncA (S : AE) (fn : Fn) (fst cap : List Operand) : Option AV :=
  match fn, opnds S fst, opnds S cap with
  | .func f, some a, some b => some (.fn f a b)
  | _, _, _ => none

def extractA (S : AE) (o : Oper) (x : Option AV) (i : Nat) : Option AV :=
  match x with
  | some (.tup cs) => cs[i]?
  | some _ => genOp P S o
  | none => none

def on1 (x : Option AV) (f : AV → Option AV) : Option AV := match x with | some a => f a | none => none
def on2 (x y : Option AV) (f : AV → AV → Option AV) : Option AV := match x with | some a => (match y with | some b => f a b | none => none) | none => none

def sliceOpA (S : AE) (o : Oper) (t : TypeId) (x : Option AV) (lo hi mx : Option Operand) : Option AV :=
  match x, mx with
  | some a, none => orGen P S o (sliceA P S t a lo hi)
  | _, _ => none

def lenOpA (m : AM) (S : AE) (o : Oper) (c : Call) : Option AV :=
  match opnds S c.args.toList with
  | some as => orGen P S o (lenOp P m c.argTypes.toList as)
  | none => none

/-- An operation that only reads. -/
def readOp (m : AM) (S : AE) (o : Oper) : Option AV :=
  match o.op with
  | .move x => opnd S x
  | .assign x => opnd S x
  | .pick c a b => pickA S c a b
  | .build t parts => orGen P S o (buildA P S t parts.toList)
  | .load t x => on1 (opnd S x) (loadA P G m t)
  | .nilCheck x => nilCheckA (opnd S x)
  | .binOp op t x y _ => binOpA P S o op t (opnd S x) (opnd S y)
  | .makeFunc fn fst cap => makeFuncA S fn fst.toList cap.toList
  | .slice t x lo hi mx => sliceOpA P S o t (opnd S x) lo hi mx
  | .fieldAddr t x f => orGen P S o (on1 (opnd S x) fun a => fieldAddrA P t a f)
  | .field t x f => orGen P S o (on1 (opnd S x) fun a => fieldA P t a f)
  | .indexAddr t x i => orGen P S o (on2 (opnd S x) (opnd S i) (indexAddrA P t))
  | .index t x i => orGen P S o (on2 (opnd S x) (opnd S i) (indexA P t))
  | .lookup t x k ok => orGen P S o (on2 (opnd S x) (opnd S k) fun a b => lookupA P m t a b ok)
  | .extract x i => extractA P S o (opnd S x) i
  | .entry x => on1 (opnd S x) (entryA m)
  | .sliceToArrayPointer t x => on1 (opnd S x) (arrayAtA P t)
  | .unOp _ _ _ => genOp P S o
  | .convert _ _ _ => genOp P S o
  | .call c => match c.callee with
    | .builtin b => match b with
      | .len => lenOpA P m S o c
      | _ => genOp P S o
    | _ => none
  | _ => none

abbrev R2 := Option (AV × AM)
def rd (m : AM) (r : Option AV) : R2 := match r with | some a => some (a, m) | none => none
def wr (r : Option AM) : R2 := match r with | some m => some (.flat undef, m) | none => none

def storeOp (m : AM) (t : TypeId) (x y : Option AV) : R2 :=
  match x with
  | some a => (match y with | some b => wr (storeA P m t a b) | none => none)
  | none => none

def allocOp (m : AM) (t : TypeId) : R2 :=
  match zeroOf P t with
  | some z => some (.ptr m.next 0, m.new (.cells z))
  | none => none

def boxOp (m : AM) (x : Option AV) : R2 :=
  match x with
  | some a => some (.ptr m.next 0, m.new (.cells (cellsOf a)))
  | none => none

def esOp (m : AM) (x st v : Option AV) : R2 :=
  match x, st, v with
  | some a, some b, some c => wr (entryStoreA m a b c)
  | _, _, _ => none

def meOp (m : AM) (t : TypeId) (x k : Option AV) : R2 :=
  match x with
  | some a => (match k with | some b => mapEntryA P m t a b | none => none)
  | none => none

def updOp (m : AM) (t : TypeId) (x k v : Option AV) : R2 :=
  match x, k, v with
  | some a, some b, some c => wr (updateA P m t a b c)
  | _, _, _ => none

def builtinOp (m : AM) (S : AE) (o : Oper) (b : Builtin) (c : Call) : R2 :=
  match b with
  | .append => match opnds S c.args.toList with
    | some as => appendA P m c.argTypes.toList as
    | none => none
  | .copy => match opnds S c.args.toList with
    | some as => copyA P m c.argTypes.toList as
    | none => none
  | .delete => match opnds S c.args.toList with
    | some as => match deleteA P m c.argTypes.toList as with
      | some m' => some (.flat (.tuple #[]), m')
      | none => none
    | none => none
  | .clear => match opnds S c.args.toList with
    | some as => match clearA P m c.argTypes.toList as with
      | some m' => some (.flat (.tuple #[]), m')
      | none => none
    | none => none
  | _ => rd m (readOp P G m S o)

/-- The function that is called, and with what. -/
def callee (S : AE) (x : Operand) (args : List Operand) : Option (FuncId × List AV) :=
  match opnds S args with
  | some as => match opnd S x with
    | some (.flat (.func (.func f) fst cap)) => some (f, fst.toList.map lift ++ as ++ cap.toList.map lift)
    | some (.fn f fst cap) => some (f, fst ++ as ++ cap)
    | _ => none
  | none => none

/-- Is a function entered when it is called? -/
def enters (f : FuncId) : Bool :=
  match P.funcs[f]? with
  | some fn => bif fn.name == "runtime.NumGoroutine" then false else fn.body.isSome
  | none => false

def callOp (call : FuncId → List AV → AM → R2) (m : AM) (r : Option (FuncId × List AV)) : R2 :=
  match r with
  | some (f, as) => bif enters P f then call f as m else none
  | none => none

def on1r (x : Option AV) (f : AV → R2) : R2 := match x with | some a => f a | none => none
def makeMapOp (m : AM) (r : Option Operand) : R2 := match r with | none => some (.mp m.next, m.new (.map [] 0)) | some _ => none
def makeSliceOp (m : AM) (t : TypeId) (x y : Option AV) : R2 :=
  match x with
  | some a => (match y with | some b => makeSliceA P m t a b | none => none)
  | none => none

/-- An operation. -/
def effOp (call : FuncId → List AV → AM → R2) (m : AM) (S : AE) (o : Oper) : R2 :=
  match o.op with
  | .binOp op t x y _ => rd m (binOpA P S o op t (opnd S x) (opnd S y))
  | .load t x => rd m (on1 (opnd S x) (loadA P G m t))
  | .store t x y => storeOp P m t (opnd S x) (opnd S y)
  | .alloc t => allocOp P m t
  | .box _ x => boxOp m (opnd S x)
  | .buildSlice t len parts => buildSliceA P S m t len parts.toList
  | .makeMap _ r => makeMapOp m r
  | .makeSlice t l c => makeSliceOp P m t (opnd S l) (opnd S c)
  | .mapUpdate t x k v => updOp P m t (opnd S x) (opnd S k) (opnd S v)
  | .insert t x k v => updOp P m t (opnd S x) (opnd S k) (opnd S v)
  | .mapEntry t x k => meOp P m t (opnd S x) (opnd S k)
  | .entryStore _ x st v => esOp m (opnd S x) (opnd S st) (opnd S v)
  | .range t x => on1r (opnd S x) (rangeA P m t)
  | .next x str => on1r (opnd S x) fun a => nextA m a str
  | .convert src dst x => on1r (opnd S x) (convA P m src dst)
  | .call c => match c.callee with
    | .builtin b => builtinOp P G m S o b c
    | .value x => callOp P call m (callee S x c.args.toList)
    | .invoke _ _ => none
  | _ => rd m (readOp P G m S o)

def yields (S : AE) (d : Nat) (want : Bool) : Option Bool :=
  match S.get d with
  | some (.bool b) => some (match want with | true => b | false => !b)
  | some (.flat v) => match v with
    | .tuple _ => some false
    | _ => none
  | _ => none

def wantedA (ops : List Oper) (S : AE) (g : Option (Nat × Bool)) : Option Bool :=
  match g with
  | none => some true
  | some (j, want) => match ops[j]? with
    | some p => match p.dst with
      | some d => yields S d want
      | none => some false
    | none => some false

def putA (N : Nat) (S : AE) (d : Option Tmp) (a : AV) : Option AE :=
  match d with
  | none => some S
  | some d => bif Nat.ble (d + 1) N then some (S.set d (some a)) else none

inductive Ex where
  | normal
  | exit (id : Nat)
  | ret

def putR (N : Nat) (S : AE) (d : Option Tmp) (r : R2) : Option (AE × AM) :=
  match r with
  | some (a, m') => match putA N S d a with
    | some S' => some (S', m')
    | none => none
  | none => none

def oneStep (call : FuncId → List AV → AM → R2) (N : Nat) (ops : List Oper) (o : Oper) (S : AE) (m : AM) : Option (AE × AM) :=
  match wantedA ops S o.guard with
  | some true => putR N S o.dst (effOp P G call m S o)
  | some false => putR N S o.dst (some (.flat undef, m))
  | none => none

def thenOps (ih : AE → AM → Option (AE × AM)) (r : Option (AE × AM)) : Option (AE × AM) :=
  match r with
  | some (S, m) => ih S m
  | none => none

def argE (k : Nat) : List AV → AE → AE
  | [], S => S
  | a :: l, S => argE (k + 1) l (S.set k (some a))

def resVar (m : AM) (S : AE) : ResultVar → Option AV
  | .tmp t => S.get t
  | .cell t ty => on1 (S.get t) (loadA P G m ty)

def resA (m : AM) (S : AE) : List ResultVar → Option (List AV)
  | [] => some []
  | r :: l => match resVar P G m S r with
    | some a => match resA m S l with
      | some as => some (a :: as)
      | none => none
    | none => none

def resOf : List AV → AV
  | [a] => a
  | l => .tup l

/-! ### Is it the same value? -/
def sameBytes : List UInt8 → List UInt8 → Bool
  | [], [] => true
  | a :: l, b :: l' => bif Nat.beq a.toNat b.toNat then sameBytes l l' else false
  | _, _ => false

def sameV (a b : Value) : Bool :=
  match a with
  | .int k n => match b with
    | .int k' n' => Nat.beq (kindNo k) (kindNo k') && decide (n = n')
    | _ => false
  | .bool x => match b with
    | .bool y => match x with | true => y | false => !y
    | _ => false
  | .string s => match b with
    | .string t => sameBytes s.data.toList t.data.toList
    | _ => false
  | .pointer x => match b with
    | .pointer y => decide (x = y)
    | _ => false
  | .slice none l c => match b with
    | .slice none l' c' => Nat.beq l l' && Nat.beq c c'
    | _ => false
  | .map none => match b with
    | .map none => true
    | _ => false
  | .nilFunc => match b with
    | .nilFunc => true
    | _ => false
  | .nilIface => match b with
    | .nilIface => true
    | _ => false
  | .func fn a1 c1 => match b with
    | .func fn' a2 c2 => match fn with
      | .func f => match fn' with
        | .func f' => Nat.beq f f' && emptyL a1.toList && emptyL a2.toList && emptyL c1.toList && emptyL c2.toList
        | _ => false
      | _ => false
    | _ => false
  | _ => false

def sameVs : List Value → List Value → Bool
  | [], [] => true
  | a :: l, b :: l' => bif sameV a b then sameVs l l' else false
  | _, _ => false

def sameF (a b : Value) : Bool :=
  match a with
  | .agg l => match b with
    | .agg l' => sameVs l.toList l'.toList
    | _ => false
  | a => sameV a b

def same0 (a b : AV) : Bool :=
  match a with
  | .num k n => match b with
    | .num k' n' => Nat.beq (kindNo k) (kindNo k') && Nat.beq n n'
    | _ => false
  | .bool x => match b with
    | .bool y => match x with | true => y | false => !y
    | _ => false
  | .flat v => match b with
    | .flat u => sameF v u
    | _ => false
  | .ptr i j => match b with
    | .ptr i' j' => Nat.beq i i' && Nat.beq j j'
    | _ => false
  | .sl i o l c k => match b with
    | .sl i' o' l' c' k' => Nat.beq i i' && Nat.beq o o' && Nat.beq l l' && Nat.beq c c' && (match k with | true => k' | false => !k')
    | _ => false
  | .se i o l c => match b with
    | .se i' o' l' c' => Nat.beq i i' && Nat.beq o o' && Nat.beq l l' && Nat.beq c c'
    | _ => false
  | .mp i => match b with
    | .mp i' => Nat.beq i i'
    | _ => false
  | _ => false

def samesBy (f : AV → AV → Bool) : List AV → List AV → Bool
  | [], [] => true
  | a :: l, b :: l' => bif f a b then samesBy f l l' else false
  | _, _ => false

def deepen (f : AV → AV → Bool) (a b : AV) : Bool :=
  match a with
  | .fn g x y => match b with
    | .fn g' x' y' => Nat.beq g g' && samesBy f x x' && samesBy f y y'
    | _ => false
  | .agg l => match b with
    | .agg l' => samesBy f l l'
    | _ => false
  | .tup l => match b with
    | .tup l' => samesBy f l l'
    | _ => false
  | a => same0 a b
def sameA : AV → AV → Bool := deepen (deepen (deepen same0))

/-- Does a reading look into memory? -/
def looks : Op → Bool
  | .load _ _ => true
  | .lookup _ _ _ _ => true
  | .entry _ => true
  | .call _ => true
  | _ => false

abbrev Done := List (Nat × AE × Oper × AV)

/-- What was read, and is no forebear of operation i, reads the same still. -/
def still (M : List Nat) (i : Nat) (m : AM) : Done → Bool
  | [] => true
  | x :: D => bif anc M x.1 i then still M i m D else
      match readOp P G m x.2.1 x.2.2.1 with
      | some a => bif sameA a x.2.2.2 then still M i m D else false
      | none => false

/-- A schedule: the operations in an order (is it a reading?), the forebears, and an allocation that may come up earlier. -/
abbrev Sched := List (Nat × Bool) × List Nat × Option Nat

abbrev R3 := Option (Ex × AE × AM)
abbrev Rec := FuncId → Nat → Code → AE → AM → R3
abbrev Ord := FuncId → Nat → Option Sched

def endCall (fn : Func) (r : R3) : R2 :=
  match r with
  | some (e, S', m') => match e with
    | .exit _ => none
    | _ => match resA P G m' S' fn.results.toList with
      | some l => some (resOf l, m')
      | none => none
  | none => none

def callBody (ih : Rec) (g : FuncId) (fn : Func) (as : List AV) (m : AM) : R2 :=
  match fn.body with
  | some b => bif Nat.ble as.length fn.ntmps then endCall P G fn (ih g fn.ntmps b (argE 0 as .nil) m) else none
  | none => none

abbrev Specs := FuncId → Option (List AV → AM → R2)

def callK (X : Specs) (ih : Rec) (g : FuncId) (as : List AV) (m : AM) : R2 :=
  match X g with
  | some f => f as m
  | none => match P.funcs[g]? with
    | some fn => callBody P G ih g fn as m
    | none => none

/-- What slices.Grow does to a slice whose elements are of so many cells. -/
def growSpec (size : Nat) (as : List AV) (m : AM) : R2 :=
  match as with
  | [.sl id off len cap kn, .num .i64 n] => match kn with
    | false => bif Nat.beq off 0 && Nat.beq cap 0 && Nat.ble n 1000000 && Nat.ble len 1000000 then
        match m.get id with
        | some (.buf cs z) => bif Nat.beq z size && Nat.beq cs.length len then some (growA (m.del id) cs len size) else none
        | _ => none
      else none
    | true => none
  | [.flat (.slice none 0 0), .num .i64 n] => bif Nat.ble n 1000000 && Nat.ble 1 n then some (growA m [] 0 size) else none
  | _ => none


def seqK (ih : Rec) (f : FuncId) (N : Nat) (b : Code) (r : R3) : R3 :=
  match r with
  | some (e, S, m) => match e with
    | .normal => ih f N b S m
    | e => some (e, S, m)
  | none => none

def blockK (id : Nat) (r : R3) : R3 :=
  match r with
  | some (e, S, m) => match e with
    | .exit id' => bif Nat.beq id' id then some (.normal, S, m) else some (.exit id', S, m)
    | e => some (e, S, m)
  | none => none

def condK (ih : Rec) (f : FuncId) (N : Nat) (a b : Code) (S : AE) (m : AM) (x : Option AV) : R3 :=
  match x with
  | some (.bool t) => match t with
    | true => ih f N a S m
    | false => ih f N b S m
  | _ => none

def nrm (r : Option (AE × AM)) : R3 := match r with | some (S, m) => some (.normal, S, m) | none => none

def nth? {α : Type} : List α → Nat → Option α
  | [], _ => none
  | a :: _, 0 => some a
  | _ :: l, n + 1 => nth? l n
end

section
variable (P : Program) (G : Nat → Option (List Value)) (plans : Ord) (X : Specs)

noncomputable def runOps (call : FuncId → List AV → AM → R2) (N : Nat) (ops : List Oper) (l : List Oper) : AE → AM → Option (AE × AM) :=
  List.rec (fun S m => some (S, m)) (fun o _ ih S m => thenOps ih (oneStep P G call N ops o S m)) l

noncomputable def readStep (N : Nat) (ops : List Oper) (i : Nat) (o : Oper) (D : Done) (S : AE) (m : AM) : Option (Done × AE) :=
  match wantedA ops S o.guard with
  | some true => match readOp P G m S o with
    | some a => match putA N S o.dst a with
      | some S' => some (bif looks o.op then (i, S, o, a) :: D else D, S')
      | none => none
    | none => none
  | some false => match putA N S o.dst (.flat undef) with
    | some S' => some (D, S')
    | none => none
  | none => none

def thenRead (ih : Done → AE → AM → Option (AE × AM)) (m : AM) (r : Option (Done × AE)) : Option (AE × AM) :=
  match r with
  | some (D, S) => ih D S m
  | none => none

noncomputable def thenEff (M : List Nat) (i : Nat) (ih : Done → AE → AM → Option (AE × AM)) (D : Done) (r : Option (AE × AM)) : Option (AE × AM) :=
  match r with
  | some (S, m) => bif still P G M i m D then ih D S m else none
  | none => none

noncomputable def planStep (call : FuncId → List AV → AM → R2) (N : Nat) (ops : List Oper) (M : List Nat) (ih : Done → AE → AM → Option (AE × AM)) (x : Nat × Bool) (D : Done) (S : AE) (m : AM) : Option (AE × AM) :=
  match nth? ops x.1 with
  | some o => match x.2 with
    | true => thenRead ih m (readStep P G N ops x.1 o D S m)
    | false => thenEff P G M x.1 ih D (oneStep P G call N ops o S m)
  | none => none

noncomputable def runPlan (call : FuncId → List AV → AM → R2) (N : Nat) (ops : List Oper) (M : List Nat) (l : List (Nat × Bool)) : Done → AE → AM → Option (AE × AM) :=
  List.rec (fun _ S m => some (S, m)) (fun x _ ih D S m => planStep P G call N ops M ih x D S m) l

/-- What an allocation that may come up earlier makes: its cells, and (of a slice) how many elements. -/
noncomputable def floatV (S : AE) (o : Oper) : Option (List AV × Option Nat) :=
  match o.op with
  | .alloc t => match zeroOf P t with
    | some z => some (z, none)
    | none => none
  | .buildSlice t len parts => match buildCells P S t len parts.toList with
    | some cs => some (cs, some len)
    | none => none
  | _ => none
def tmpOf : Operand → Option Tmp
  | .tmp t => some t
  | _ => none
/-- The slots that it reads. -/
def optmps (o : Oper) : List Tmp :=
  match o.op with
  | .buildSlice _ _ parts => parts.toList.filterMap fun p => tmpOf p.2
  | _ => []
def notIn (d : Option Tmp) (l : List Tmp) : Bool :=
  match d with
  | some d => l.all fun t => !Nat.beq t d
  | none => true
noncomputable def keepsF (S : AE) (ops : List Oper) (x : Nat) (o : Oper) : Bool :=
  match nth? ops x with
  | some ox => match floatV P S ox with
    | some _ => notIn o.dst (optmps ox)
    | none => true
  | none => true
noncomputable def readyF (S : AE) (ops : List Oper) (x : Nat) : Bool :=
  match nth? ops x with
  | some ox => (floatV P S ox).isSome
  | none => false

noncomputable def planStepF (call : FuncId → List AV → AM → R2) (N : Nat) (ops : List Oper) (M : List Nat) (x : Nat) (rest ih : Done → AE → AM → Option (AE × AM)) (y : Nat × Bool) (D : Done) (S : AE) (m : AM) : Option (AE × AM) :=
  match nth? ops y.1 with
  | some o => match y.2 with
    | true => bif Nat.beq y.1 x then none else (bif keepsF P S ops x o then thenRead ih m (readStep P G N ops y.1 o D S m) else none)
    | false => bif Nat.beq y.1 x then thenEff P G M y.1 rest D (oneStep P G call N ops o S m) else
        bif keepsF P S ops x o && readyF P S ops x && still P G M x m D then thenEff P G M y.1 ih D (oneStep P G call N ops o S m) else none
  | none => none

/-- The same, an allocation being allowed to come up earlier. -/
noncomputable def runPlanF (call : FuncId → List AV → AM → R2) (N : Nat) (ops : List Oper) (M : List Nat) (x : Nat) (l : List (Nat × Bool)) : Done → AE → AM → Option (AE × AM) :=
  List.rec (fun _ _ _ => none) (fun y l' ih D S m => planStepF P G call N ops M x (runPlan P G call N ops M l') ih y D S m) l

def apartD (x d : Nat) : Nat → List Oper → Bool
  | _, [] => true
  | k, o :: l => bif Nat.beq k x then apartD x d (k + 1) l else
      match o.dst with
      | none => apartD x d (k + 1) l
      | some d' => bif Nat.beq d' d then false else apartD x d (k + 1) l

def floatD (ops : List Oper) (x : Nat) : Option Nat :=
  match nth? ops x with
  | some o => match o.op, o.dst, o.guard with
    | .alloc _, some d, none => bif apartD x d 0 ops then some d else none
    | .buildSlice _ _ _, some d, none => bif apartD x d 0 ops then some d else none
    | _, _, _ => none
  | none => none

noncomputable def planK (call : FuncId → List AV → AM → R2) (N : Nat) (ops : List Oper) (p : Sched) (S : AE) (m : AM) : R3 :=
  match p.2.2 with
  | none => nrm (runPlan P G call N ops p.2.1 p.1 [] S m)
  | some x => match floatD ops x with
    | some d => bif Nat.ble (d + 1) N then nrm (runPlanF P G call N ops p.2.1 x p.1 [] (S.set d none) m) else none
    | none => none

noncomputable def regionK (ih : Rec) (f : FuncId) (N : Nat) (id : Nat) (ops : List Oper) (draw : Bool) (S : AE) (m : AM) : R3 :=
  match draw with
  | false => nrm (runOps P G (callK P G X ih) N ops ops S m)
  | true => match plans f id with
    | some p => planK P G (callK P G X ih) N ops p S m
    | none => none

noncomputable def stepC (ih : Rec) : Rec := fun f N c S m =>
  match c with
  | .skip => some (.normal, S, m)
  | .label _ => some (.normal, S, m)
  | .ret => some (.ret, S, m)
  | .exit id => some (.exit id, S, m)
  | .seq a b => seqK ih f N b (ih f N a S m)
  | .cond x a b => condK ih f N a b S m (opnd S x)
  | .block id b => blockK id (ih f N b S m)
  | .loop b => seqK ih f N c (ih f N b S m)
  | .region id ops draw => regionK P G plans X ih f N id ops.toList draw S m
  | _ => none

/-- What a body's code does, so far as 'fuel' goes. -/
noncomputable def exec (fuel : Nat) : Rec := Nat.rec (fun _ _ _ _ _ => none) (fun _ ih => stepC P G plans X ih) fuel
end
end Go.Ev
