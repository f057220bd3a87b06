/-
  Several texts in one: EvA, EvB, EvC, EvE, EvF, EvG, EvH, EvI, EvK, EvL.
-/
import Derived.Test.YtlomlmbbiopaaaaGreatDoorSxT
import Derived.WalkKit
import Derived.Laws.Tables
import Derived.Laws.IdiomStrings
import Derived.Laws.Append
namespace Go.Ev
open Go.Sx
set_option linter.unusedVariables false
theorem si {α:Type _}{a b:α}:(some a=some b)=(a=b):=Option.some.injEq a b
inductive Tr (α:Type) where
 | nil
 | node (v:Option α) (a b c d:Tr α)
namespace Tr
variable {α : Type}
noncomputable def pick {β:Type}(i:Nat) (a b c d:β):β:=Nat.rec a (fun i _=>Nat.rec b (fun i _=>Nat.rec c (fun _ _=>d) i) i) i
noncomputable def get (t:Tr α):Nat→Option α :=
 Tr.rec (fun _=>none) (fun v _ _ _ _ g0 g1 g2 g3 n=>Nat.rec v (fun k _=>pick (Nat.mod k 4) (g0 (Nat.div k 4)) (g1 (Nat.div k 4)) (g2 (Nat.div k 4)) (g3 (Nat.div k 4))) n) t
noncomputable def put (d:Nat):Tr α→Nat→Option α→Tr α :=
 Nat.rec (fun t _ _=>t) (fun _ ih t n x=>Tr.rec
  (Nat.rec (.node x .nil .nil .nil .nil) (fun k _=>pick (Nat.mod k 4) (.node none (ih .nil (Nat.div k 4) x) .nil .nil .nil) (.node none .nil (ih .nil (Nat.div k 4) x) .nil .nil) (.node none .nil .nil (ih .nil (Nat.div k 4) x) .nil) (.node none .nil .nil .nil (ih .nil (Nat.div k 4) x))) n)
  (fun v a b c d _ _ _ _=>Nat.rec (.node x a b c d) (fun k _=>pick (Nat.mod k 4) (.node v (ih a (Nat.div k 4) x) b c d) (.node v a (ih b (Nat.div k 4) x) c d) (.node v a b (ih c (Nat.div k 4) x) d) (.node v a b c (ih d (Nat.div k 4) x))) n) t) d
noncomputable def set (t:Tr α) (n:Nat) (x:Option α):Tr α:=put (n+1) t n x
end Tr
inductive AV where
 | num (k:IntKind) (n:Nat)
 | bool (b:Bool)
 | flat (v:Value)
 | ptr (id off:Nat)
 | sl (id off len cap:Nat) (kn:Bool)
 | se (id off off' sub:Nat)
 | mp (id:Nat)
 | fn (f:FuncId) (fst cap:List AV)
 | agg (cs:List AV)
 | tup (cs:List AV)
 | yl (id:Nat)
 | ifc (t:TypeId) (a:AV)
inductive Blk where
 | cells (cs:List AV)
 | buf (cs:List AV) (esz:Nat)
 | map (es:List (Value×AV×Nat)) (clock:Nat)
 | iter (mid since:Nat) (seen:List Nat) (last:Nat)
 | siter (s:ByteArray) (pos:Nat)
 | loop (f N:Nat) (S:Tr AV) (ps:List Tmp) (assign body:Code) (st:Nat) (pend:Option Code)
structure AM where
 bl:Tr Blk
 next:Nat
abbrev AE:=Tr AV
noncomputable section
def AM.get (m:AM) (id:Nat):Option Blk:=m.bl.get id
def AM.set (m:AM) (id:Nat) (b:Blk):AM:=⟨m.bl.set id (some b),m.next⟩
def AM.del (m:AM) (id:Nat):AM:=⟨m.bl.set id none,m.next⟩
def AM.new (m:AM) (b:Blk):AM:=⟨m.bl.set m.next (some b),m.next+1⟩
end
def over {α:Type}:List α→List α→List α
 | [],cs=>cs
 | _::_,[]=>[]
 | v::vs,_::cs=>v::over vs cs
def splice {α:Type}:Nat→List α→List α→List α
 | 0,vs,cs=>over vs cs
 | _+1,_,[]=>[]
 | n+1,vs,c::cs=>c::splice n vs cs
def ofInt (k:IntKind):Int→AV
 | .ofNat n=>.num k n
 | .negSucc n=>.flat (.int k (.negSucc n))
def lift:Value→AV
 | .int k n=>ofInt k n
 | .bool b=>.bool b
 | v=>.flat v
def cellsOf:AV→List AV
 | .flat v=>match v with
  | .agg cs=>cs.toList.map lift
  | v=>[.flat v]
 | .agg cs=>cs
 | a=>[a]
def flat1:AV→Option Value
 | .flat v=>some v
 | .num k n=>some (.int k (.ofNat n))
 | .bool b=>some (.bool b)
 | _=>none
def flats:List AV→Option (List Value)
 | []=>some []
 | a::l=>match flat1 a with
  | some v=>match flats l with
   | some vs=>some (v::vs)
   | none=>none
  | none=>none
def flatOf:AV→Option Value
 | .flat v=>some v
 | .num k n=>some (.int k (.ofNat n))
 | .bool b=>some (.bool b)
 | .agg cs=>match flats cs with
  | some vs=>some (.agg vs.toArray)
  | none=>none
 | _=>none
def oneA:AV→Bool
 | .flat v=>oneB v
 | .agg _=>false
 | .tup _=>false
 | _=>true
def onesA:List AV→Bool
 | []=>true
 | a::l=>bif oneA a then onesA l else false
noncomputable section
variable (P : Program) (G : Nat → Option (List Value))
def opnd (S:AE):Operand→Option AV
 | .tmp t=>S.get t
 | .const v=>some (lift v)
 | .global g=>some (.flat (.pointer (some ⟨g,0,none⟩)))
 | .func f=>some (.flat (.func (.func f) #[] #[]))
def opnds (S:AE):List Operand→Option (List AV)
 | []=>some []
 | x::l=>match opnd S x with
  | some a=>match opnds S l with
   | some asx=>some (a::asx)
   | none=>none
  | none=>none
def fopnd (S:AE) (x:Operand):Value:=match opnd S x with
 | some a=>match flatOf a with
  | some v=>v
  | none=>undef
 | none=>undef
def flatOps (S:AE):List Operand→Bool
 | []=>true
 | x::l=>match opnd S x with
  | some a=>match flatOf a with
   | some _=>flatOps S l
   | none=>false
  | none=>false
def genOp (S:AE) (o:Oper):Option AV :=
 bif isSelect o.op then none else
 bif flatOps S o.op.operands.toList then
  match drive P (execOp (fopnd S) o) [] with
  | some (ns,v)=>match ns with
   | []=>some (lift v)
   | _=>none
  | none=>none
 else none
def aggSize (t:TypeId):Option (Option Nat) :=
 match P.underlying t with
 | some (.struct _)=>match P.info? t with|some i=>some (some i.size)|none=>none
 | some (.array _ _)=>match P.info? t with|some i=>some (some i.size)|none=>none
 | some _=>some none
 | none=>none
def cut? (cs:List AV) (off n:Nat):Option (List AV) :=
 bif Nat.ble (off+n) cs.length then some ((cs.drop off).take n) else none
def partA (t:TypeId) (cs:List AV) (off:Nat):Option AV :=
 match aggSize P t with
 | some (some n)=>match cut? cs off n with|some l=>some (.agg l)|none=>none
 | some none=>cs[off]?
 | none=>none
def cellsAt (m:AM) (id:Nat):Option (List AV) :=
 match m.get id with
 | some (.cells cs)=>some cs
 | some (.buf cs _)=>some cs
 | _=>none
def loadA (m:AM) (t:TypeId) (a:AV):Option AV :=
 match a with
 | .ptr id off=>match cellsAt m id with
  | some cs=>partA P t cs off
  | none=>none
 | .flat (.pointer (some ⟨g,off,none⟩))=>match G g with
  | some vs=>partA P t (vs.map lift) off
  | none=>none
 | _=>none
def withCells (m:AM) (id:Nat) (f:List AV→List AV):Option AM :=
 match m.get id with
 | some (.cells cs)=>some (m.set id (.cells (f cs)))
 | some (.buf cs z)=>some (m.set id (.buf (f cs) z))
 | _=>none
def storeCellsA (m:AM) (id off:Nat) (vs:List AV):Option AM :=
 match cellsAt m id with
 | some cs=>bif Nat.ble (off+vs.length) cs.length then (bif onesA vs then withCells m id (splice off vs) else none) else none
 | none=>none
def storeA (m:AM) (t:TypeId) (a v:AV):Option AM :=
 match a with
 | .ptr id off=>match P.info? t with
  | some i=>bif Nat.beq (cellsOf v).length i.size then storeCellsA m id off (cellsOf v) else none
  | none=>none
 | _=>none
def zeroOf (t:TypeId):Option (List AV) :=
 match P.info? t with
 | some i=>match i.zero with
  | some z=>some (cellsOf (lift z))
  | none=>none
 | none=>none
def fillA (place:Nat→Option (Nat×Nat)) (cells:List AV):List (Nat×AV)→Option (List AV)
 | []=>some cells
 | (i,v)::rest =>
  match place i with
  | none=>none
  | some (off,size) =>
   bif Nat.beq (cellsOf v).length size && Nat.ble (off+(cellsOf v).length) cells.length then fillA place (splice off (cellsOf v) cells) rest else none
def partsA (S:AE):List (Nat×Operand)→Option (List (Nat×AV))
 | []=>some []
 | (i,x)::l=>match opnd S x with
  | some a=>match partsA S l with
   | some asx=>some ((i,a)::asx)
   | none=>none
  | none=>none
def places (fs:List Field):Option (List (Nat×Nat)) :=
 match fs with
 | []=>some []
 | f::l=>match P.info? f.type with
  | some i=>match places l with
   | some ps=>some ((f.offset,i.size)::ps)
   | none=>none
  | none=>none
def buildA (S:AE) (t:TypeId) (parts:List (Nat×Operand)):Option AV :=
 match zeroOf P t,partsA S parts,P.underlying t with
 | some z,some ps,some (.struct fields)=>match places P fields.toList with
  | some pl=>match fillA (pl[·]?) z ps with
   | some cs=>some (.agg cs)
   | none=>none
  | none=>none
 | some z,some ps,some (.array _ e)=>match P.info? e with
  | some ie=>match fillA (fun i=>some (i*ie.size,ie.size)) z ps with
   | some cs=>some (.agg cs)
   | none=>none
  | none=>none
 | _,_,_=>none
def rep {α:Type}:Nat→List α→List α
 | 0,_=>[]
 | n+1,z=>z++rep n z
def buildCells (S:AE) (t:TypeId) (len:Nat) (parts:List (Nat×Operand)):Option (List AV) :=
 match P.underlying t with
 | some (.slice e)=>match P.info? e,zeroOf P e,partsA S parts with
  | some ie,some z,some ps =>
   bif Nat.ble (len*ie.size) 16777216 && Nat.beq z.length ie.size && Nat.ble 1 ie.size then
    fillA (fun i=>some (i*ie.size,ie.size)) (rep len z) ps
   else none
  | _,_,_=>none
 | _=>none
def buildSliceA (S:AE) (m:AM) (t:TypeId) (len:Nat) (parts:List (Nat×Operand)):Option (AV×AM) :=
 match buildCells P S t len parts with
 | some cs=>some (.sl m.next 0 len len true,m.new (.cells cs))
 | none=>none
def intOf?:AV→Option Nat
 | .num _ n=>some n
 | _=>none
def makeSliceA (m:AM) (t:TypeId) (l c:AV):Option (AV×AM) :=
 match P.underlying t,intOf? l,intOf? c with
 | some (.slice e),some l,some c=>match P.info? e,zeroOf P e with
  | some ie,some z =>
   bif Nat.ble l c && Nat.ble c 1000000 && Nat.ble (ie.bytes*c) 281474976710656 && Nat.beq z.length ie.size && Nat.ble 1 ie.size then
    some (.sl m.next 0 l c true,m.new (.cells (rep c z)))
   else none
  | _,_=>none
 | _,_,_=>none
def indexAddrA (t:TypeId) (x i:AV):Option AV :=
 match intOf? i with
 | some n=>match P.underlying t,x with
  | some (.slice e),.sl id off len _ _=>match P.info? e with
   | some ie=>bif Nat.ble (n+1) len then some (.ptr id (off+n*ie.size)) else none
   | none=>none
  | some (.array len e),.ptr id off=>match P.info? e with
   | some ie=>bif Nat.ble (n+1) len then some (.ptr id (off+n*ie.size)) else none
   | none=>none
  | _,_=>none
 | none=>none
def indexA (t:TypeId) (x i:AV):Option AV :=
 match intOf? i,x with
 | some n,.agg cs=>match P.underlying t with
  | some (.array len e)=>match P.info? e with
   | some ie=>bif Nat.ble (n+1) len then partA P e cs (n*ie.size) else none
   | none=>none
  | _=>none
 | _,_=>none
def fieldAddrA (t:TypeId) (x:AV) (f:Nat):Option AV :=
 match x,P.underlying t with
 | .ptr id off,some (.struct fields)=>match fields.toList[f]? with
  | some fd=>match P.info? fd.type with
   | some i=>bif Nat.beq i.size 0 then none else some (.ptr id (off+fd.offset))
   | none=>none
  | none=>none
 | _,_=>none
def fieldA (t:TypeId) (x:AV) (f:Nat):Option AV :=
 match x,P.underlying t with
 | .agg cs,some (.struct fields)=>match fields.toList[f]? with
  | some fd=>partA P fd.type cs fd.offset
  | none=>none
 | _,_=>none
def boundA (S:AE) (d:Nat):Option Operand→Option Nat
 | none=>some d
 | some x=>match opnd S x with
  | some a=>intOf? a
  | none=>none
def resl (id off len cap:Nat) (kn:Bool) (size l h:Nat):Option AV :=
 match kn with
 | true=>bif Nat.ble l h && Nat.ble h cap then some (.sl id (bif Nat.beq cap l then off else off+l*size) (h-l) (cap-l) true) else none
 | false=>bif Nat.ble l h && Nat.ble h len then
  (bif Nat.beq l 0 then some (.sl id off h cap false) else
   bif Nat.beq l h then some (.se id off (off+l*size) (cap+l)) else some (.sl id (off+l*size) (h-l) (cap+l) false))
  else none
def sliceA (S:AE) (t:TypeId) (x:AV) (lo hi:Option Operand):Option AV :=
 match P.underlying t,x with
 | some (.array n e),.ptr id off=>match P.info? e,boundA S 0 lo,boundA S n hi with
  | some ie,some l,some h=>resl id off n n true ie.size l h
  | _,_,_=>none
 | some (.slice e),.sl id off len cap kn=>match P.info? e,boundA S 0 lo,boundA S len hi with
  | some ie,some l,some h=>resl id off len cap kn ie.size l h
  | _,_,_=>none
 | some (.slice e),.se id o1 o2 sub=>match P.info? e,boundA S 0 lo,boundA S 0 hi with
  | some _,some 0,some 0=>some (.se id o1 o2 sub)
  | _,_,_=>none
 | _,_=>none
def readsA (m:AM) (size n:Nat):AV→Option (List AV)
 | .sl id off _ _ _=>match cellsAt m id with
  | some cs=>cut? cs off (n*size)
  | none=>none
 | .se _ _ _ _=>bif Nat.beq n 0 then some [] else none
 | .flat (.slice none _ _)=>bif Nat.beq n 0 then some [] else none
 | .flat (.string s)=>bif Nat.beq size 1 then (if decide (n≤s.size)=true then some ((s.data.toList.take n).map fun b=>.num .u8 b.toNat) else none) else none
 | _=>none
def lenA:AV→Option Nat
 | .sl _ _ len _ _=>some len
 | .se _ _ _ _=>some 0
 | .flat (.slice _ len _)=>some len
 | .flat (.string s)=>some s.size
 | _=>none
def growA (m:AM) (cs:List AV) (n size:Nat):AV×AM:=(.sl m.next 0 n 0 false,m.new (.buf cs size))
def isIntT:Option TypeDesc→Bool
 | some (.int _)=>true
 | _=>false
def appNews (m:AM) (zeros:Bool) (ie:TypeInfo) (z:List AV) (x:AV):Option (Nat×List AV) :=
 match zeros with
 | true=>match intOf? x with
  | some n=>bif Nat.ble (n*(ie.bytes+1)) 1000000000 then some (n,rep n z) else none
  | none=>none
 | false=>match lenA x with
  | some n=>match readsA m ie.size n x with
   | some l=>bif onesA l then some (n,l) else none
   | none=>none
  | none=>none
def appTo (m:AM) (size bytes:Nat) (s:AV) (n:Nat) (news:List AV):Option (AV×AM) :=
 match s with
 | .flat (.slice none 0 0)=>bif Nat.ble (n*(bytes+1)) 1000000000 then (bif Nat.beq n 0 then some (s,m) else some (growA m news n size)) else none
 | .sl id off len cap kn=>bif Nat.ble ((len+n)*(bytes+1)) 1000000000 then
  match kn with
  | false=>match m.get id with
   | some (.buf cs z)=>bif Nat.beq z size && Nat.beq off 0 && Nat.beq cap 0 && Nat.ble (len*size) cs.length then some (growA (m.del id) (cs.take (len*size)++news) (len+n) size) else none
   | _=>none
  | true=>bif Nat.ble (len+n) cap then
   match storeCellsA m id (off+len*size) news with
   | some m'=>some (.sl id off (len+n) cap true,m')
   | none=>none
   else match readsA m size len (.sl id off len cap true) with
    | some old=>some (growA m (old++news) (len+n) size)
    | none=>none
  else none
 | _=>none
def appendA (m:AM) (ts:List TypeId) (args:List AV):Option (AV×AM) :=
 match ts,args with
 | t::t'::_,[s,x]=>match P.underlying t,P.underlying t' with
  | some (.slice e),some d=>match P.info? e,zeroOf P e with
   | some ie,some z=>bif Nat.beq z.length ie.size && Nat.ble 1 ie.size && onesA z then
    match appNews m (isIntT (some d)) ie z x with
    | some (n,news)=>appTo m ie.size ie.bytes s n news
    | none=>none
    else none
   | _,_=>none
  | _,_=>none
 | _,_=>none
def copyA (m:AM) (ts:List TypeId) (args:List AV):Option (AV×AM) :=
 match ts,args with
 | t::_,[d,x]=>match P.underlying t with
  | some (.slice e)=>match P.info? e,lenA d,lenA x with
   | some ie,some dl,some xl =>
    match readsA m ie.size (min xl dl) x,d with
    | some new,.sl id off _ _ _=>match storeCellsA m id off new with
     | some m'=>some (.num .i64 (min xl dl),m')
     | none=>none
    | _,_=>none
   | _,_,_=>none
  | _=>none
 | _,_=>none
def lenOp (m:AM) (ts:List TypeId) (args:List AV):Option AV :=
 match ts,args with
 | [t],[x]=>match P.underlying t,x with
  | some (.slice _),.sl _ _ len _ _=>some (.num .i64 len)
  | some (.slice _),.se _ _ _ _=>some (.num .i64 0)
  | some (.map _ _),.mp id=>match m.get id with
   | some (.map es _)=>some (.num .i64 es.length)
   | _=>none
  | some (.pointer arr),.ptr _ _=>match P.underlying arr with
   | some (.array n _)=>some (.num .i64 n)
   | _=>none
  | some (.array n _),.agg _=>some (.num .i64 n)
  | _,_=>none
 | _,_=>none
def driveP {α:Type}:Sem α→Option α
 | .pure a=>some a
 | .program k=>driveP (k P)
 | .mark _ k=>driveP k
 | _=>none
def keysOf (es:List (Value×AV×Nat)):List MapEntry:=es.map fun e=>⟨e.1,undef,e.2.2⟩
def findA (kt:TypeId) (k:Value) (es:List (Value×AV×Nat)):Option (Option Nat) :=
 match driveP P (Instr.findKey kt k (keysOf es)) with
 | some (some (i,_))=>some (some i)
 | some none=>some none
 | none=>none
def keyOK (em:Bool) (kt:TypeId) (k:Value):Bool :=
 match driveP P (Instr.checkKey em 10000 kt k) with
 | some _=>true
 | none=>false
def emptyL {α:Type}:List α→Bool
 | []=>true
 | _=>false
def lookupA (m:AM) (t:TypeId) (x k:AV) (ok:Bool):Option AV :=
 match x,flatOf k,P.underlying t with
 | .mp id,some k,some (.map kt e)=>match m.get id,P.info? e with
  | some (.map es _),some ie=>bif keyOK P (emptyL es) kt k then
   match findA P kt k es,ie.zero with
   | some (some i),_=>match es[i]? with
    | some v=>some (match ok with|true=>.tup [v.2.1,.bool true]|false=>v.2.1)
    | none=>none
   | some none,some z=>some (match ok with|true=>.tup [lift z,.bool false]|false=>lift z)
   | _,_=>none
   else none
  | _,_=>none
 | _,_,_=>none
def setNth {α:Type}:List α→Nat→(α→α)→List α
 | [],_,_=>[]
 | a::l,0,f=>f a::l
 | a::l,n+1,f=>a::setNth l n f
def stays (es:List (Value×AV×Nat)) (i:Nat) (k:Value):Bool :=
 match es[i]? with
 | some e=>Instr.sameBits 10000 e.1 k
 | none=>false
def updateA (m:AM) (t:TypeId) (x k v:AV):Option AM :=
 match x,flatOf k,P.underlying t with
 | .mp id,some k,some (.map kt _)=>match m.get id with
  | some (.map es clock)=>bif keyOK P false kt k then
   match findA P kt k es with
   | some (some i)=>bif stays es i k then some (m.set id (.map (setNth es i fun e=>(k,v,e.2.2)) clock)) else none
   | some none=>some (m.set id (.map (es++[(k,v,clock)]) (clock+1)))
   | none=>none
   else none
  | _=>none
 | _,_,_=>none
def mapEntryA (m:AM) (t:TypeId) (x k:AV):Option (AV×AM) :=
 match x,flatOf k,P.underlying t with
 | .mp id,some k,some (.map kt e)=>match m.get id,P.info? e with
  | some (.map es clock),some ie=>bif keyOK P false kt k then
   match findA P kt k es,ie.zero with
   | some (some i),_=>match es[i]? with
    | some old=>bif stays es i k then some (.tup [old.2.1,.num .i64 old.2.2],m.set id (.map (setNth es i fun e=>(k,e.2.1,e.2.2)) clock)) else none
    | none=>none
   | some none,some z=>some (.tup [lift z,.num .i64 clock],m.set id (.map (es++[(k,lift z,clock)]) (clock+1)))
   | _,_=>none
   else none
  | _,_=>none
 | _,_,_=>none
def bornAt (n:Nat):List (Value×AV×Nat)→Nat→Option Nat
 | [],_=>none
 | e::l,i=>bif Nat.beq e.2.2 n then some i else bornAt n l (i+1)
def entryStoreA (m:AM) (x st v:AV):Option AM :=
 match x,st with
 | .mp id,.num _ n=>match m.get id with
  | some (.map es clock)=>match bornAt n es 0 with
   | some i=>some (m.set id (.map (setNth es i fun e=>(e.1,v,e.2.2)) clock))
   | none=>none
  | _=>none
 | _,_=>none
def deleteA (m:AM) (ts:List TypeId) (args:List AV):Option AM :=
 match ts,args with
 | t::_,[.mp id,kk]=>match P.underlying t,flatOf kk with
  | some (.map kt _),some k=>match m.get id with
   | some (.map es clock)=>bif keyOK P (emptyL es) kt k then
    match findA P kt k es with
    | some (some i)=>some (m.set id (.map (es.eraseIdx i) clock))
    | some none=>some m
    | none=>none
    else none
   | _=>none
  | _,_=>none
 | _,_=>none
def clearA (m:AM) (ts:List TypeId) (args:List AV):Option AM :=
 match ts,args with
 | t::_,[.sl id off len cap kn]=>match P.underlying t with
  | some (.slice e)=>match P.info? e,zeroOf P e with
   | some ie,some z=>bif Nat.beq z.length ie.size && Nat.ble 1 ie.size && Nat.ble 1 len then storeCellsA m id off (rep len z) else none
   | _,_=>none
  | _=>none
 | t::_,[.mp id]=>match m.get id,P.underlying t with
  | some (.map _ clock),some _=>some (m.set id (.map [] clock))
  | _,_=>none
 | _,_=>none
def arrayAtA (t:TypeId) (x:AV):Option AV :=
 match P.underlying t,x with
 | some (.array n _),.sl id off len _ _=>bif Nat.ble n len then some (.ptr id off) else none
 | _,_=>none
def rangeA (m:AM) (t:TypeId) (x:AV):Option (AV×AM) :=
 match P.underlying t,x with
 | some (.map _ _),.mp id=>match m.get id with
  | some (.map _ clock)=>some (.ptr m.next 0,m.new (.iter id clock [] clock))
  | _=>none
 | _,_=>none
def nextA (m:AM) (x:AV) (str:Bool):Option (AV×AM) :=
 match x,str with
 | .ptr id 0,false=>match m.get id with
  | some (.iter mid since seen last)=>match m.get mid with
   | some (.map es clock) =>
    bif !seen.isEmpty && !es.isEmpty && es.all (fun e=>Nat.ble last e.2.2) then none else
     match es.filter fun e=>!seen.contains e.2.2 with
     | []=>some (.tup [.bool false],m)
     | [e]=>bif Nat.ble (e.2.2+1) since then some (.tup [.bool true,lift e.1,e.2.1],m.set id (.iter mid since (seen++[e.2.2]) clock)) else none
     | _=>none
   | _=>none
  | _=>none
 | _,_=>none
def bornA (n:Nat):List (Value×AV×Nat)→Option (Value×AV)
 | []=>none
 | e::l=>bif Nat.beq e.2.2 n then some (e.1,e.2.1) else bornA n l
def entryA (m:AM) (x:AV):Option AV :=
 match x with
 | .ptr id 0=>match m.get id with
  | some (.iter mid _ seen stepped)=>match m.get mid,seen.getLast? with
   | some (.map es clock),some stamp=>bif Nat.beq clock stepped then
    match bornA stamp es with
    | some (k,v)=>some (.tup [lift k,v])
    | none=>none
    else none
   | _,_=>none
  | _=>none
 | _=>none
def isNilA:AV→Option Bool
 | .ptr _ _=>some false
 | .sl _ _ _ _ _=>some false
 | .se _ _ _ _=>some false
 | .mp _=>some false
 | .fn _ _ _=>some false
 | .flat (.pointer none)=>some true
 | .flat (.slice none _ _)=>some true
 | .flat (.map none)=>some true
 | .flat .nilFunc=>some true
 | .flat (.func _ _ _)=>some false
 | .flat (.pointer (some _))=>some false
 | _=>none
def eqlA (x y:AV):Option Bool :=
 match isNilA x,isNilA y with
 | some true,some b=>some b
 | some b,some true=>some b
 | some false,some false=>match x,y with
  | .ptr a i,.ptr b j=>bif Nat.beq a b then some (Nat.beq i j) else none
  | _,_=>none
 | _,_=>none
def uMod:IntKind→Option Nat
 | .u8=>some 256
 | .u16=>some 65536
 | .u32=>some 4294967296
 | .u64=>some 18446744073709551616
 | _=>none
def forceN {R:Type}(n:Nat) (k:Nat→R):R:=match n with
 | 0=>k 0
 | m+1=>k (Nat.succ m)
def intN (k:IntKind) (n:Nat):Option AV :=
 match k with
 | .i64=>bif Nat.ble n 9223372036854775807 then forceN n fun n=>some (.num .i64 n) else none
 | .u64=>forceN (n % 18446744073709551616) fun n=>some (.num .u64 n)
 | .u32=>forceN (n % 4294967296) fun n=>some (.num .u32 n)
 | .u16=>forceN (n % 65536) fun n=>some (.num .u16 n)
 | .u8=>forceN (n % 256) fun n=>some (.num .u8 n)
 | .i32=>bif Nat.ble n 2147483647 then forceN n fun n=>some (.num .i32 n) else none
 | _=>none
def bitsN (k:IntKind) (x y r:Nat):Option AV :=
 match uMod k with
 | some M=>bif Nat.ble (x+1) M && Nat.ble (y+1) M then forceN r fun n=>some (.num k n) else none
 | none=>none
def natBin (op:BinOp) (k:IntKind) (x y:Nat):Option AV :=
 match op with
 | .add=>intN k (x+y)
 | .sub=>bif Nat.ble y x then intN k (x-y) else none
 | .mul=>intN k (x*y)
 | .eql=>some (.bool (Nat.beq x y))
 | .neq=>some (.bool (!Nat.beq x y))
 | .lss=>some (.bool (Nat.ble (x+1) y))
 | .leq=>some (.bool (Nat.ble x y))
 | .gtr=>some (.bool (Nat.ble (y+1) x))
 | .geq=>some (.bool (Nat.ble y x))
 | .and=>bitsN k x y (Nat.land x y)
 | .or=>bitsN k x y (Nat.lor x y)
 | .xor=>bitsN k x y (Nat.xor x y)
 | .rem=>bif Nat.beq y 0 then none else forceN (x % y) fun n=>some (.num k n)
 | .quo=>bif Nat.beq y 0 then none else intN k (x / y)
 | _=>none
def kindNo:IntKind→Nat
 | .i8=>0
 | .i16=>1
 | .i32=>2
 | .i64=>3
 | .u8=>4
 | .u16=>5
 | .u32=>6
 | .u64=>7
def numBin (op:BinOp) (k:IntKind) (x:Nat) (k':IntKind) (y:Nat):Option AV :=
 match op with
 | .shl=>intN k (x*2 ^ (min y k.bits))
 | .shr=>forceN (x / 2 ^ (min y k.bits)) fun n=>some (.num k n)
 | op=>bif Nat.beq (kindNo k) (kindNo k') then natBin op k x y else none
def binA (op:BinOp) (x y:AV):Option AV :=
 match x with
 | .num k a=>match y with
  | .num k' b=>numBin op k a k' b
  | _=>none
 | _=>none
def shapeA:AV→Nat
 | .ptr _ _=>1
 | .sl _ _ _ _ _=>2
 | .se _ _ _ _=>2
 | .mp _=>3
 | .fn _ _ _=>4
 | .flat v=>match v with
  | .pointer _=>1
  | .slice _ _ _=>2
  | .map _=>3
  | .nilFunc=>4
  | .func _ _ _=>4
  | _=>0
 | _=>0
def shapeT (t:TypeId):Nat :=
 match P.underlying t with
 | some (.pointer e)=>match P.info? e with
  | some ie=>bif Nat.beq ie.size 0 then 9 else 1
  | none=>9
 | some (.slice _)=>2
 | some (.map _ _)=>3
 | some (.func _ _ _)=>4
 | _=>9
def nilEq (op:BinOp) (t:TypeId) (x y:AV):Option AV :=
 bif Nat.beq (shapeA x) (shapeT P t) && Nat.beq (shapeA y) (shapeT P t) then
  match op,eqlA x y with
  | .eql,some b=>some (.bool b)
  | .neq,some b=>some (.bool (!b))
  | _,_=>none
 else none
def convA (m:AM) (src dst:TypeId) (x:AV):Option (AV×AM) :=
 match P.underlying src,P.underlying dst,x with
 | some _,some (.int k),.num _ x=>match intN k x with
  | some a=>some (a,m)
  | none=>some (ofInt k (k.wrap (.ofNat x)),m)
 | some _,some (.int k),.flat (.int _ n)=>some (ofInt k (k.wrap n),m)
 | some (.slice e),some .string,x=>match P.underlying e,x with
  | some (.int .u8),.sl id off len _ _=>match readsA m 1 len x with
   | some cs=>match bytesOf cs with
    | some bs=>some (.flat (.string ⟨bs.toArray⟩),m)
    | none=>none
   | none=>none
  | some (.int .u8),.se _ _ _ _=>some (.flat (.string ⟨#[]⟩),m)
  | some (.int .u8),.flat (.slice none _ _)=>some (.flat (.string ⟨#[]⟩),m)
  | _,_=>none
 | some .string,some (.slice e),.flat (.string s)=>match P.underlying e with
  | some (.int .u8)=>bif Nat.ble s.size 1000000000 then some (growA m (s.data.toList.map fun b=>.num .u8 b.toNat) s.size 1) else none
  | _=>none
 | some .string,some .string,.flat (.string s)=>some (.flat (.string s),m)
 | _,_,_=>none
where
 bytesOf:List AV→Option (List UInt8)
  | []=>some []
  | a::l=>match a with
   | .num .u8 n=>bif Nat.ble n 255 then match bytesOf l with
    | some bs=>some (UInt8.ofNat n::bs)
    | none=>none
    else none
   | _=>none
def orGen (S:AE) (o:Oper) (r:Option AV):Option AV :=
 match r with
 | some a=>some a
 | none=>genOp P S o
def pickA (S:AE) (c a b:Operand):Option AV :=
 match opnd S c with
 | some (.bool t)=>match t with
  | true=>opnd S a
  | false=>opnd S b
 | _=>none
def nilCheckA (x:Option AV):Option AV :=
 match x with
 | some (.ptr a b)=>some (.ptr a b)
 | some (.fn f a b)=>some (.fn f a b)
 | some (.yl id)=>some (.yl id)
 | some (.flat (.pointer (some a)))=>some (.flat (.pointer (some a)))
 | some (.flat (.func (.func f) a b))=>some (.flat (.func (.func f) a b))
 | _=>none
def binOpA (S:AE) (o:Oper) (op:BinOp) (t:TypeId) (x y:Option AV):Option AV :=
 match x,y with
 | some a,some b=>match binA op a b with
  | some r=>some r
  | none=>orGen P S o (nilEq P op t a b)
 | _,_=>none
def makeFuncA (S:AE) (fn:Fn) (fst cap:List Operand):Option AV :=
 match fn,opnds S fst,opnds S cap with
 | .func f,some a,some b=>some (.fn f a b)
 | _,_,_=>none
def extractA (S:AE) (o:Oper) (x:Option AV) (i:Nat):Option AV :=
 match x with
 | some (.tup cs)=>cs[i]?
 | some _=>genOp P S o
 | none=>none
def on1 (x:Option AV) (f:AV→Option AV):Option AV:=match x with|some a=>f a|none=>none
def on2 (x y:Option AV) (f:AV→AV→Option AV):Option AV:=match x with|some a=>(match y with|some b=>f a b|none=>none)|none=>none
def sliceOpA (S:AE) (o:Oper) (t:TypeId) (x:Option AV) (lo hi mx:Option Operand):Option AV :=
 match x,mx with
 | some a,none=>orGen P S o (sliceA P S t a lo hi)
 | _,_=>none
def lenOpA (m:AM) (S:AE) (o:Oper) (c:Call):Option AV :=
 match opnds S c.args.toList with
 | some asx=>orGen P S o (lenOp P m c.argTypes.toList asx)
 | none=>none
def mkIfcA (t:TypeId) (a:AV):Option AV :=
 match P.underlying t with
 | some (.interface _)=>none
 | some _=>some (.ifc t a)
 | none=>none
def assertA (t:TypeId) (ok:Bool) (x:Option AV):Option AV :=
 match x with
 | some (.ifc t' a)=>match P.underlying t with
  | some (.interface _)=>none
  | some _=>bif Nat.beq t' t then some (match ok with|true=>.tup [a,.bool true]|false=>a) else none
  | none=>none
 | _=>none
def methodA (m:AM) (t:TypeId) (a:AV) (name:String):Option (FuncId×AV) :=
 match P.info? t with
 | some ti=>match ti.methods.toList.find? (fun x=>x.name == name) with
  | some mt=>match mt.path.toList,mt.func,P.underlying t with
   | [],some (f,pr),some (.pointer e)=>match pr,a with
    | true,a=>some (f,a)
    | false,.ptr id off=>match loadA P G m e (.ptr id off) with
     | some x=>some (f,x)
     | none=>none
    | false,_=>none
   | _,_,_=>none
  | none=>none
 | none=>none
def readOp (m:AM) (S:AE) (o:Oper):Option AV :=
 match o.op with
 | .move x=>opnd S x
 | .assign x=>opnd S x
 | .pick c a b=>pickA S c a b
 | .build t parts=>orGen P S o (buildA P S t parts.toList)
 | .load t x=>on1 (opnd S x) (loadA P G m t)
 | .nilCheck x=>nilCheckA (opnd S x)
 | .binOp op t x y _=>binOpA P S o op t (opnd S x) (opnd S y)
 | .makeFunc fn fst cap=>makeFuncA S fn fst.toList cap.toList
 | .slice t x lo hi mx=>sliceOpA P S o t (opnd S x) lo hi mx
 | .fieldAddr t x f=>orGen P S o (on1 (opnd S x) fun a=>fieldAddrA P t a f)
 | .field t x f=>orGen P S o (on1 (opnd S x) fun a=>fieldA P t a f)
 | .indexAddr t x i=>orGen P S o (on2 (opnd S x) (opnd S i) (indexAddrA P t))
 | .index t x i=>orGen P S o (on2 (opnd S x) (opnd S i) (indexA P t))
 | .lookup t x k ok=>orGen P S o (on2 (opnd S x) (opnd S k) fun a b=>lookupA P m t a b ok)
 | .extract x i=>extractA P S o (opnd S x) i
 | .entry x=>on1 (opnd S x) (entryA m)
 | .sliceToArrayPointer t x=>on1 (opnd S x) (arrayAtA P t)
 | .unOp _ _ _=>genOp P S o
 | .convert _ _ _=>genOp P S o
 | .makeInterface t x=>on1 (opnd S x) (mkIfcA P t)
 | .typeAssert x _ t ok=>assertA P t ok (opnd S x)
 | .call c=>match c.callee with
  | .builtin b=>match b with
   | .len=>lenOpA P m S o c
   | _=>genOp P S o
  | _=>none
 | _=>none
abbrev R2:=Option (AV×AM)
def rd (m:AM) (r:Option AV):R2:=match r with|some a=>some (a,m)|none=>none
def wr (r:Option AM):R2:=match r with|some m=>some (.flat undef,m)|none=>none
def storeOp (m:AM) (t:TypeId) (x y:Option AV):R2 :=
 match x with
 | some a=>(match y with|some b=>wr (storeA P m t a b)|none=>none)
 | none=>none
def allocOp (m:AM) (t:TypeId):R2 :=
 match zeroOf P t with
 | some z=>some (.ptr m.next 0,m.new (.cells z))
 | none=>none
def boxOp (m:AM) (x:Option AV):R2 :=
 match x with
 | some a=>some (.ptr m.next 0,m.new (.cells (cellsOf a)))
 | none=>none
def esOp (m:AM) (x st v:Option AV):R2 :=
 match x,st,v with
 | some a,some b,some c=>wr (entryStoreA m a b c)
 | _,_,_=>none
def meOp (m:AM) (t:TypeId) (x k:Option AV):R2 :=
 match x with
 | some a=>(match k with|some b=>mapEntryA P m t a b|none=>none)
 | none=>none
def updOp (m:AM) (t:TypeId) (x k v:Option AV):R2 :=
 match x,k,v with
 | some a,some b,some c=>wr (updateA P m t a b c)
 | _,_,_=>none
def builtinOp (m:AM) (S:AE) (o:Oper) (b:Builtin) (c:Call):R2 :=
 match b with
 | .append=>match opnds S c.args.toList with
  | some asx=>appendA P m c.argTypes.toList asx
  | none=>none
 | .copy=>match opnds S c.args.toList with
  | some asx=>copyA P m c.argTypes.toList asx
  | none=>none
 | .delete=>match opnds S c.args.toList with
  | some asx=>match deleteA P m c.argTypes.toList asx with
   | some m'=>some (.flat (.tuple #[]),m')
   | none=>none
  | none=>none
 | .clear=>match opnds S c.args.toList with
  | some asx=>match clearA P m c.argTypes.toList asx with
   | some m'=>some (.flat (.tuple #[]),m')
   | none=>none
  | none=>none
 | _=>rd m (readOp P G m S o)
def callee (S:AE) (x:Operand) (args:List Operand):Option (FuncId×List AV) :=
 match opnds S args with
 | some asx=>match opnd S x with
  | some (.flat (.func (.func f) fst cap))=>some (f,fst.toList.map lift++asx++cap.toList.map lift)
  | some (.fn f fst cap)=>some (f,fst++asx++cap)
  | _=>none
 | none=>none
def enters (f:FuncId):Bool :=
 match P.funcs[f]? with
 | some fn => bif fn.name == "runtime.NumGoroutine" then false else fn.body.isSome
 | none=>false
def callOp (call:FuncId→List AV→AM→R2) (m:AM) (r:Option (FuncId×List AV)):R2 :=
 match r with
 | some (f,asx)=>bif enters P f then call f asx m else none
 | none=>none
def callI (call:FuncId→List AV→AM→R2) (m:AM) (x:Option AV) (args:Option (List AV)) (name:String):R2 :=
 match x,args with
 | some (.ifc t a),some asx=>match methodA P G m t a name with
  | some (f,r)=>bif enters P f then call f (r::asx) m else none
  | none=>none
 | _,_=>none
def on1r (x:Option AV) (f:AV→R2):R2:=match x with|some a=>f a|none=>none
def makeMapOp (m:AM) (r:Option Operand):R2:=match r with|none=>some (.mp m.next,m.new (.map [] 0))|some _=>none
def makeSliceOp (m:AM) (t:TypeId) (x y:Option AV):R2 :=
 match x with
 | some a=>(match y with|some b=>makeSliceA P m t a b|none=>none)
 | none=>none
def effOp (call:FuncId→List AV→AM→R2) (m:AM) (S:AE) (o:Oper):R2 :=
 match o.op with
 | .binOp op t x y _=>rd m (binOpA P S o op t (opnd S x) (opnd S y))
 | .load t x=>rd m (on1 (opnd S x) (loadA P G m t))
 | .store t x y=>storeOp P m t (opnd S x) (opnd S y)
 | .alloc t=>allocOp P m t
 | .box _ x=>boxOp m (opnd S x)
 | .buildSlice t len parts=>buildSliceA P S m t len parts.toList
 | .makeMap _ r=>makeMapOp m r
 | .makeSlice t l c=>makeSliceOp P m t (opnd S l) (opnd S c)
 | .mapUpdate t x k v=>updOp P m t (opnd S x) (opnd S k) (opnd S v)
 | .insert t x k v=>updOp P m t (opnd S x) (opnd S k) (opnd S v)
 | .mapEntry t x k=>meOp P m t (opnd S x) (opnd S k)
 | .entryStore _ x st v=>esOp m (opnd S x) (opnd S st) (opnd S v)
 | .range t x=>on1r (opnd S x) (rangeA P m t)
 | .next x str=>on1r (opnd S x) fun a=>nextA m a str
 | .convert src dst x=>on1r (opnd S x) (convA P m src dst)
 | .call c=>match c.callee with
  | .builtin b=>builtinOp P G m S o b c
  | .value x=>callOp P call m (callee S x c.args.toList)
  | .invoke recv name=>callI P G call m (opnd S recv) (opnds S c.args.toList) name
 | _=>rd m (readOp P G m S o)
def YF:FuncId:=4294967295
def callY (call:FuncId→List AV→AM→R2) (m:AM) (S:AE) (x:Operand) (args:List Operand):R2 :=
 match opnd S x with
 | some (.yl id)=>match opnds S args with
  | some asx=>call YF (.yl id::asx) m
  | none=>none
 | _=>callOp P call m (callee S x args)
def effY (call:FuncId→List AV→AM→R2) (m:AM) (S:AE) (o:Oper):R2 :=
 match o.op with
 | .call c=>match c.callee with
  | .value x=>callY P call m S x c.args.toList
  | _=>effOp P G call m S o
 | _=>effOp P G call m S o
def yields (S:AE) (d:Nat) (want:Bool):Option Bool :=
 match S.get d with
 | some (.bool b)=>some (match want with|true=>b|false=>!b)
 | some (.flat v)=>match v with
  | .tuple _=>some false
  | _=>none
 | _=>none
def wantedA (ops:List Oper) (S:AE) (g:Option (Nat×Bool)):Option Bool :=
 match g with
 | none=>some true
 | some (j,want)=>match ops[j]? with
  | some p=>match p.dst with
   | some d=>yields S d want
   | none=>some false
  | none=>some false
def putA (N:Nat) (S:AE) (d:Option Tmp) (a:AV):Option AE :=
 match d with
 | none=>some S
 | some d=>bif Nat.ble (d+1) N then some (S.set d (some a)) else none
inductive Ex where
 | normal
 | exit (id:Nat)
 | ret
def putR (N:Nat) (S:AE) (d:Option Tmp) (r:R2):Option (AE×AM) :=
 match r with
 | some (a,m')=>match putA N S d a with
  | some S'=>some (S',m')
  | none=>none
 | none=>none
def oneStep (call:FuncId→List AV→AM→R2) (N:Nat) (ops:List Oper) (o:Oper) (S:AE) (m:AM):Option (AE×AM) :=
 match wantedA ops S o.guard with
 | some true=>putR N S o.dst (effY P G call m S o)
 | some false=>putR N S o.dst (some (.flat undef,m))
 | none=>none
def thenOps (ih:AE→AM→Option (AE×AM)) (r:Option (AE×AM)):Option (AE×AM) :=
 match r with
 | some (S,m)=>ih S m
 | none=>none
def argE (k:Nat):List AV→AE→AE
 | [],S=>S
 | a::l,S=>argE (k+1) l (S.set k (some a))
def resVar (m:AM) (S:AE):ResultVar→Option AV
 | .tmp t=>S.get t
 | .cell t ty=>on1 (S.get t) (loadA P G m ty)
def resA (m:AM) (S:AE):List ResultVar→Option (List AV)
 | []=>some []
 | r::l=>match resVar P G m S r with
  | some a=>match resA m S l with
   | some asx=>some (a::asx)
   | none=>none
  | none=>none
def resOf:List AV→AV
 | [a]=>a
 | l=>.tup l
def sameBytes:List UInt8→List UInt8→Bool
 | [],[]=>true
 | a::l,b::l'=>bif Nat.beq a.toNat b.toNat then sameBytes l l' else false
 | _,_=>false
def sameV (a b:Value):Bool :=
 match a with
 | .int k n=>match b with
  | .int k' n'=>Nat.beq (kindNo k) (kindNo k') && decide (n=n')
  | _=>false
 | .bool x=>match b with
  | .bool y=>match x with|true=>y|false=>!y
  | _=>false
 | .string s=>match b with
  | .string t=>sameBytes s.data.toList t.data.toList
  | _=>false
 | .pointer x=>match b with
  | .pointer y=>decide (x=y)
  | _=>false
 | .slice none l c=>match b with
  | .slice none l' c'=>Nat.beq l l' && Nat.beq c c'
  | _=>false
 | .map none=>match b with
  | .map none=>true
  | _=>false
 | .nilFunc=>match b with
  | .nilFunc=>true
  | _=>false
 | .nilIface=>match b with
  | .nilIface=>true
  | _=>false
 | .func fn a1 c1=>match b with
  | .func fn' a2 c2=>match fn with
   | .func f=>match fn' with
    | .func f'=>Nat.beq f f' && emptyL a1.toList && emptyL a2.toList && emptyL c1.toList && emptyL c2.toList
    | _=>false
   | _=>false
  | _=>false
 | _=>false
def sameVs:List Value→List Value→Bool
 | [],[]=>true
 | a::l,b::l'=>bif sameV a b then sameVs l l' else false
 | _,_=>false
def sameF (a b:Value):Bool :=
 match a with
 | .agg l=>match b with
  | .agg l'=>sameVs l.toList l'.toList
  | _=>false
 | a=>sameV a b
def same0 (a b:AV):Bool :=
 match a with
 | .num k n=>match b with
  | .num k' n'=>Nat.beq (kindNo k) (kindNo k') && Nat.beq n n'
  | _=>false
 | .bool x=>match b with
  | .bool y=>match x with|true=>y|false=>!y
  | _=>false
 | .flat v=>match b with
  | .flat u=>sameF v u
  | _=>false
 | .ptr i j=>match b with
  | .ptr i' j'=>Nat.beq i i' && Nat.beq j j'
  | _=>false
 | .sl i o l c k=>match b with
  | .sl i' o' l' c' k'=>Nat.beq i i' && Nat.beq o o' && Nat.beq l l' && Nat.beq c c' && (match k with|true=>k' | false=>!k')
  | _=>false
 | .se i o l c=>match b with
  | .se i' o' l' c'=>Nat.beq i i' && Nat.beq o o' && Nat.beq l l' && Nat.beq c c'
  | _=>false
 | .mp i=>match b with
  | .mp i'=>Nat.beq i i'
  | _=>false
 | .yl i=>match b with
  | .yl i'=>Nat.beq i i'
  | _=>false
 | _=>false
def samesBy (f:AV→AV→Bool):List AV→List AV→Bool
 | [],[]=>true
 | a::l,b::l'=>bif f a b then samesBy f l l' else false
 | _,_=>false
def deepen (f:AV→AV→Bool) (a b:AV):Bool :=
 match a with
 | .ifc t x=>match b with
  | .ifc t' x'=>Nat.beq t t' && f x x'
  | _=>false
 | .fn g x y=>match b with
  | .fn g' x' y'=>Nat.beq g g' && samesBy f x x' && samesBy f y y'
  | _=>false
 | .agg l=>match b with
  | .agg l'=>samesBy f l l'
  | _=>false
 | .tup l=>match b with
  | .tup l'=>samesBy f l l'
  | _=>false
 | a=>same0 a b
def sameA:AV→AV→Bool:=deepen (deepen (deepen same0))
def looks:Op→Bool
 | .load _ _=>true
 | .lookup _ _ _ _=>true
 | .entry _=>true
 | .call _=>true
 | _=>false
abbrev Done:=List (Nat×AE×Oper×AV)
def still (M:List Nat) (i:Nat) (m:AM):Done→Bool
 | []=>true
 | x::D=>bif anc M x.1 i then still M i m D else
  match readOp P G m x.2.1 x.2.2.1 with
  | some a=>bif sameA a x.2.2.2 then still M i m D else false
  | none=>false
abbrev Sched:=List (Nat×Bool)×List Nat×Option Nat
abbrev R3:=Option (Ex×AE×AM)
abbrev Rec:=FuncId→Nat→Code→AE→AM→R3
abbrev Ord:=FuncId→Nat→Option Sched
def endCall (fn:Func) (r:R3):R2 :=
 match r with
 | some (e,S',m')=>match e with
  | .exit _=>none
  | _=>match resA P G m' S' fn.results.toList with
   | some l=>some (resOf l,m')
   | none=>none
 | none=>none
def callBody (ih:Rec) (g:FuncId) (fn:Func) (asx:List AV) (m:AM):R2 :=
 match fn.body with
 | some b=>bif Nat.ble asx.length fn.ntmps then endCall P G fn (ih g fn.ntmps b (argE 0 asx .nil) m) else none
 | none=>none
abbrev Specs:=FuncId→Option (List AV→AM→R2)
def callK (X:Specs) (ih:Rec) (g:FuncId) (asx:List AV) (m:AM):R2 :=
 match X g with
 | some f=>f asx m
 | none=>match P.funcs[g]? with
  | some fn=>callBody P G ih g fn asx m
  | none=>none
def growSpec (size:Nat) (asx:List AV) (m:AM):R2 :=
 match asx with
 | [.sl id off len cap kn,.num .i64 n]=>match kn with
  | false=>bif Nat.beq off 0 && Nat.beq cap 0 && Nat.ble n 1000000 && Nat.ble len 1000000 then
   match m.get id with
   | some (.buf cs z)=>bif Nat.beq z size && Nat.beq cs.length len then some (growA (m.del id) cs len size) else none
   | _=>none
   else none
  | true=>none
 | [.flat (.slice none 0 0),.num .i64 n]=>bif Nat.ble n 1000000 && Nat.ble 1 n then some (growA m [] 0 size) else none
 | _=>none
def seqK (ih:Rec) (f:FuncId) (N:Nat) (b:Code) (r:R3):R3 :=
 match r with
 | some (e,S,m)=>match e with
  | .normal=>ih f N b S m
  | e=>some (e,S,m)
 | none=>none
def blockK (id:Nat) (r:R3):R3 :=
 match r with
 | some (e,S,m)=>match e with
  | .exit id'=>bif Nat.beq id' id then some (.normal,S,m) else some (.exit id',S,m)
  | e=>some (e,S,m)
 | none=>none
def condK (ih:Rec) (f:FuncId) (N:Nat) (a b:Code) (S:AE) (m:AM) (x:Option AV):R3 :=
 match x with
 | some (.bool t)=>match t with
  | true=>ih f N a S m
  | false=>ih f N b S m
 | _=>none
def nrm (r:Option (AE×AM)):R3:=match r with|some (S,m)=>some (.normal,S,m)|none=>none
def ptOf:List (Nat×Bool)→PT
 | []=>.done
 | (i,true)::l=>.rd i (ptOf l)
 | (i,false)::l=>.ef i (ptOf l)
def dropF (x:Nat):List (Nat×Bool)→List (Nat×Bool)
 | []=>[]
 | y::l=>bif Nat.beq y.1 x then l else y::dropF x l
def ptF (x:Nat):List (Nat×Bool)→PT
 | []=>.done
 | (i,true)::l=>.rd i (ptF x l)
 | (i,false)::l=>bif Nat.beq i x then .ef x (ptOf l) else .alt (.ef x (.ef i (ptOf (dropF x l)))) (.ef i (ptF x l))
def treeOf (p:Sched):PT:=match p.2.2 with
 | none=>ptOf p.1
 | some x=>ptF x p.1
def draws:Code→List (Nat×Array Oper)
 | .region id ops draw=>match draw with
  | true=>[(id,ops)]
  | false=>[]
 | .seq x y=>draws x++draws y
 | .cond _ x y=>draws x++draws y
 | .block _ x=>draws x
 | .loop x=>draws x
 | .rangeFunc _ _ x y=>draws x++draws y
 | _=>[]
def noRF:Code→Bool
 | .seq a b=>noRF a && noRF b
 | .cond _ a b=>noRF a && noRF b
 | .block _ b=>noRF b
 | .loop b=>noRF b
 | .scope b=>noRF b
 | .rangeFunc _ _ _ _=>false
 | _=>true
def okdB (plans:Ord) (f:FuncId) (c:Code):Bool:=(draws c).all fun x=>match plans f x.1 with
 | some p=>planOK x.2 p.2.1 (treeOf p)
 | none=>true
def setPs (N:Nat):List Tmp→List AV→AE→Option AE
 | [],[],S=>some S
 | p::ps,a::l,S=>bif Nat.ble (p+1) N then setPs N ps l (S.set p (some a)) else none
 | _,_,_=>none
def jumpOf:Ex→Option Code
 | .normal=>none
 | .exit id=>some (.exit id)
 | .ret=>some .ret
def endRoundK (id:Nat) (r:R3):R2 :=
 match r with
 | some (e,_,m)=>match m.get id with
  | some (.loop f N S0 ps a b _ _)=>match e with
   | .normal=>some (.bool true,m.set id (.loop f N S0 ps a b 0 none))
   | .exit k=>some (.bool false,m.set id (.loop f N S0 ps a b 2 (some (.exit k))))
   | .ret=>some (.bool false,m.set id (.loop f N S0 ps a b 2 (some .ret)))
  | _=>none
 | none=>none
def bodyRoundK (ih:Rec) (id f N:Nat) (body:Code) (r:R3):R2 :=
 match r with
 | some (e,S,m)=>match e with
  | .normal=>match m.get id with
   | some (.loop f' N' S0 ps a b st p)=>match st with
    | 0=>endRoundK id (ih f N body S (m.set id (.loop f' N' S0 ps a b 1 p)))
    | _=>none
   | _=>none
  | _=>none
 | none=>none
def roundK (plans:Ord) (ih:Rec) (asx:List AV) (m:AM):R2 :=
 match asx with
 | .yl id::args=>match m.get id with
  | some (.loop f N S ps a b _ _)=>bif okdB plans f a && okdB plans f b && noRF a && noRF b then
   match setPs N ps args S with
   | some S1=>bodyRoundK ih id f N b (ih f N a S1 m)
   | none=>none
   else none
  | _=>none
 | _=>none
def callK2 (plans:Ord) (X:Specs) (ih:Rec) (g:FuncId) (asx:List AV) (m:AM):R2 :=
 bif Nat.beq g YF then (bif enters P YF then none else roundK plans ih asx m) else callK P G X ih g asx m
def fnOf (a:AV) (args:List AV):Option (FuncId×List AV) :=
 match a with
 | .flat (.func (.func f) fst cap)=>some (f,fst.toList.map lift++args++cap.toList.map lift)
 | .fn f fst cap=>some (f,fst++args++cap)
 | _=>none
def afterRange (id:Nat) (S:AE) (r:R2):R3 :=
 match r with
 | some (_,m)=>match m.get id with
  | some (.loop _ _ _ _ _ _ st p)=>match st with
   | 0=>(match p with|none=>some (.normal,S,m.del id)|some _=>none)
   | 2=>(match p with
    | some .ret=>some (.ret,S,m.del id)
    | some (.exit k)=>some (.exit k,S,m.del id)
    | _=>none)
   | _=>none
  | _=>none
 | none=>none
def rangeK (X:Specs) (ih:Rec) (f N:Nat) (g:Operand) (ps:List Tmp) (assign body:Code) (S:AE) (m:AM):R3 :=
 match opnd S g with
 | some v=>match fnOf v [.yl m.next] with
  | some (f',args)=>bif enters P f' then afterRange m.next S (callK P G X ih f' args (m.new (.loop f N S ps assign body 0 none))) else none
  | none=>none
 | none=>none
def nth? {α:Type}:List α→Nat→Option α
 | [],_=>none
 | a::_,0=>some a
 | _::l,n+1=>nth? l n
end
section
variable (P : Program) (G : Nat → Option (List Value)) (plans : Ord) (X : Specs)
noncomputable def runOps (call:FuncId→List AV→AM→R2) (N:Nat) (ops:List Oper) (l:List Oper):AE→AM→Option (AE×AM) :=
 List.rec (fun S m=>some (S,m)) (fun o _ ih S m=>thenOps ih (oneStep P G call N ops o S m)) l
noncomputable def readStep (N:Nat) (ops:List Oper) (i:Nat) (o:Oper) (D:Done) (S:AE) (m:AM):Option (Done×AE) :=
 match wantedA ops S o.guard with
 | some true=>match readOp P G m S o with
  | some a=>match putA N S o.dst a with
   | some S'=>some (bif looks o.op then (i,S,o,a)::D else D,S')
   | none=>none
  | none=>none
 | some false=>match putA N S o.dst (.flat undef) with
  | some S'=>some (D,S')
  | none=>none
 | none=>none
def thenRead (ih:Done→AE→AM→Option (AE×AM)) (m:AM) (r:Option (Done×AE)):Option (AE×AM) :=
 match r with
 | some (D,S)=>ih D S m
 | none=>none
noncomputable def thenEff (M:List Nat) (i:Nat) (ih:Done→AE→AM→Option (AE×AM)) (D:Done) (r:Option (AE×AM)):Option (AE×AM) :=
 match r with
 | some (S,m)=>bif still P G M i m D then ih D S m else none
 | none=>none
noncomputable def planStep (call:FuncId→List AV→AM→R2) (N:Nat) (ops:List Oper) (M:List Nat) (ih:Done→AE→AM→Option (AE×AM)) (x:Nat×Bool) (D:Done) (S:AE) (m:AM):Option (AE×AM) :=
 match nth? ops x.1 with
 | some o=>match x.2 with
  | true=>thenRead ih m (readStep P G N ops x.1 o D S m)
  | false=>thenEff P G M x.1 ih D (oneStep P G call N ops o S m)
 | none=>none
noncomputable def runPlan (call:FuncId→List AV→AM→R2) (N:Nat) (ops:List Oper) (M:List Nat) (l:List (Nat×Bool)):Done→AE→AM→Option (AE×AM) :=
 List.rec (fun _ S m=>some (S,m)) (fun x _ ih D S m=>planStep P G call N ops M ih x D S m) l
noncomputable def floatV (S:AE) (o:Oper):Option (List AV×Option Nat) :=
 match o.op with
 | .alloc t=>match zeroOf P t with
  | some z=>some (z,none)
  | none=>none
 | .buildSlice t len parts=>match buildCells P S t len parts.toList with
  | some cs=>some (cs,some len)
  | none=>none
 | _=>none
def tmpOf:Operand→Option Tmp
 | .tmp t=>some t
 | _=>none
def optmps (o:Oper):List Tmp :=
 match o.op with
 | .buildSlice _ _ parts=>parts.toList.filterMap fun p=>tmpOf p.2
 | _=>[]
def notIn (d:Option Tmp) (l:List Tmp):Bool :=
 match d with
 | some d=>l.all fun t=>!Nat.beq t d
 | none=>true
noncomputable def keepsF (S:AE) (ops:List Oper) (x:Nat) (o:Oper):Bool :=
 match nth? ops x with
 | some ox=>match floatV P S ox with
  | some _=>notIn o.dst (optmps ox)
  | none=>true
 | none=>true
noncomputable def readyF (S:AE) (ops:List Oper) (x:Nat):Bool :=
 match nth? ops x with
 | some ox=>(floatV P S ox).isSome
 | none=>false
noncomputable def planStepF (call:FuncId→List AV→AM→R2) (N:Nat) (ops:List Oper) (M:List Nat) (x:Nat) (rest ih:Done→AE→AM→Option (AE×AM)) (y:Nat×Bool) (D:Done) (S:AE) (m:AM):Option (AE×AM) :=
 match nth? ops y.1 with
 | some o=>match y.2 with
  | true=>bif Nat.beq y.1 x then none else (bif keepsF P S ops x o then thenRead ih m (readStep P G N ops y.1 o D S m) else none)
  | false=>bif Nat.beq y.1 x then thenEff P G M y.1 rest D (oneStep P G call N ops o S m) else
   bif keepsF P S ops x o && readyF P S ops x && still P G M x m D then thenEff P G M y.1 ih D (oneStep P G call N ops o S m) else none
 | none=>none
noncomputable def runPlanF (call:FuncId→List AV→AM→R2) (N:Nat) (ops:List Oper) (M:List Nat) (x:Nat) (l:List (Nat×Bool)):Done→AE→AM→Option (AE×AM) :=
 List.rec (fun _ _ _=>none) (fun y l' ih D S m=>planStepF P G call N ops M x (runPlan P G call N ops M l') ih y D S m) l
def apartD (x d:Nat):Nat→List Oper→Bool
 | _,[]=>true
 | k,o::l=>bif Nat.beq k x then apartD x d (k+1) l else
  match o.dst with
  | none=>apartD x d (k+1) l
  | some d'=>bif Nat.beq d' d then false else apartD x d (k+1) l
def floatD (ops:List Oper) (x:Nat):Option Nat :=
 match nth? ops x with
 | some o=>match o.op,o.dst,o.guard with
  | .alloc _,some d,none=>bif apartD x d 0 ops then some d else none
  | .buildSlice _ _ _,some d,none=>bif apartD x d 0 ops then some d else none
  | _,_,_=>none
 | none=>none
noncomputable def planK (call:FuncId→List AV→AM→R2) (N:Nat) (ops:List Oper) (p:Sched) (S:AE) (m:AM):R3 :=
 match p.2.2 with
 | none=>nrm (runPlan P G call N ops p.2.1 p.1 [] S m)
 | some x=>match floatD ops x with
  | some d=>bif Nat.ble (d+1) N then nrm (runPlanF P G call N ops p.2.1 x p.1 [] (S.set d none) m) else none
  | none=>none
noncomputable def regionK (ih:Rec) (f:FuncId) (N:Nat) (id:Nat) (ops:List Oper) (draw:Bool) (S:AE) (m:AM):R3 :=
 match draw with
 | false=>nrm (runOps P G (callK2 P G plans X ih) N ops ops S m)
 | true=>match plans f id with
  | some p=>planK P G (callK2 P G plans X ih) N ops p S m
  | none=>none
noncomputable def stepC (ih:Rec):Rec:=fun f N c S m =>
 match c with
 | .skip=>some (.normal,S,m)
 | .label _=>some (.normal,S,m)
 | .ret=>some (.ret,S,m)
 | .exit id=>some (.exit id,S,m)
 | .seq a b=>seqK ih f N b (ih f N a S m)
 | .cond x a b=>condK ih f N a b S m (opnd S x)
 | .block id b=>blockK id (ih f N b S m)
 | .loop b=>seqK ih f N c (ih f N b S m)
 | .region id ops draw=>regionK P G plans X ih f N id ops.toList draw S m
 | .rangeFunc g ps assign body=>rangeK P G X ih f N g ps.toList assign body S m
 | _=>none
noncomputable def exec (fuel:Nat):Rec:=Nat.rec (fun _ _ _ _ _=>none) (fun _ ih=>stepC P G plans X ih) fuel
end
end Go.Ev
namespace Go.Ev
open Go.Sx
set_option linter.unusedVariables false
set_option linter.unusedSimpArgs false
namespace Tr
variable {α : Type}
theorem pick0 {β:Type}(a b c d:β):pick 0 a b c d=a:=rfl
theorem pick1 {β:Type}(a b c d:β):pick 1 a b c d=b:=rfl
theorem pick2 {β:Type}(a b c d:β):pick 2 a b c d=c:=rfl
theorem pick3 {β:Type}(a b c d:β):pick 3 a b c d=d:=rfl
theorem get_nil (n:Nat):(Tr.nil:Tr α).get n=none:=rfl
theorem four (k:Nat):Nat.mod k 4=0∨Nat.mod k 4=1∨Nat.mod k 4=2∨Nat.mod k 4=3:=by
 show k % 4=0∨k % 4=1∨k % 4=2∨k % 4=3
 omega
theorem get_succ (v:Option α) (a b c d:Tr α) (k:Nat):(Tr.node v a b c d).get (k+1)=(pick (Nat.mod k 4) a b c d).get (Nat.div k 4):=by
 show pick (Nat.mod k 4) (a.get (Nat.div k 4)) (b.get (Nat.div k 4)) (c.get (Nat.div k 4)) (d.get (Nat.div k 4))=_
 rcases four k with h|h|h|h<;>rw [h]<;>rfl
noncomputable def ups (i:Nat) (v:Option α) (x a b c d:Tr α):Tr α:=pick i (.node v x b c d) (.node v a x c d) (.node v a b x d) (.node v a b c x)
theorem put_nilS (d n:Nat) (x:Option α):put (d+1) .nil (n+1) x=ups (Nat.mod n 4) none (put d .nil (Nat.div n 4) x) .nil .nil .nil .nil:=rfl
theorem put_nodeS (q n:Nat) (v:Option α) (a b c d:Tr α) (x:Option α):put (q+1) (.node v a b c d) (n+1) x=ups (Nat.mod n 4) v (put q (pick (Nat.mod n 4) a b c d) (Nat.div n 4) x) a b c d:=by
 show pick (Nat.mod n 4) (Tr.node v (put q a (Nat.div n 4) x) b c d) (.node v a (put q b (Nat.div n 4) x) c d) (.node v a b (put q c (Nat.div n 4) x) d) (.node v a b c (put q d (Nat.div n 4) x))=_
 rcases four n with h|h|h|h<;>rw [h]<;>rfl
theorem get_ups0 (n:Nat) (v:Option α) (x a b c d:Tr α):(ups (Nat.mod n 4) v x a b c d).get 0=v:=by
 unfold ups
 rcases four n with h|h|h|h<;>rw [h]<;>rfl
theorem get_ups (n k:Nat) (v:Option α) (x a b c d:Tr α):(ups (Nat.mod n 4) v x a b c d).get (k+1)=if Nat.mod k 4=Nat.mod n 4 then x.get (Nat.div k 4) else (pick (Nat.mod k 4) a b c d).get (Nat.div k 4):=by
 unfold ups
 rcases four n with h|h|h|h<;>rw [h]<;>simp only [pick0,pick1,pick2,pick3]<;>rw [get_succ]<;>rcases four k with h2|h2|h2|h2<;>rw [h2]<;>simp only [pick0,pick1,pick2,pick3]<;>simp
theorem get_put:∀ (d:Nat) (t:Tr α) (n:Nat) (x:Option α) (k:Nat),n<d→(put d t n x).get k=if k=n then x else t.get k
 | 0,t,n,x,k,h=>by omega
 | q+1,.nil,0,x,k,_=>by
  cases k with
  | zero=>rfl
  | succ k =>
   show(Tr.node x .nil .nil .nil .nil).get (k+1)=_
   rw [get_succ,if_neg (by omega),get_nil]
   rcases four k with h|h|h|h<;>rw [h]<;>rfl
 | q+1,.node v a b c d,0,x,k,_=>by
  cases k with
  | zero=>rfl
  | succ k =>
   show(Tr.node x a b c d).get (k+1)=_
   rw [get_succ,if_neg (by omega),get_succ]
 | q+1,.nil,n+1,x,k,h=>by
  rw [put_nilS]
  cases k with
  | zero=>rw [get_ups0,if_neg (by omega)];rfl
  | succ k =>
   have h1:Nat.div n 4<q:=by show n / 4<q;omega
   rw [get_ups,get_put q .nil _ x _ h1]
   have e1:Nat.mod k 4=k % 4:=rfl
   have e2:Nat.mod n 4=n % 4:=rfl
   have e3:Nat.div k 4=k / 4:=rfl
   have e4:Nat.div n 4=n / 4:=rfl
   by_cases hm:Nat.mod k 4=Nat.mod n 4
   ·rw [if_pos hm]
    by_cases e:k=n
    ·subst e;rw [if_pos rfl,if_pos rfl]
    ·rw [if_neg (by omega),if_neg (by omega),get_nil,get_nil]
   ·rw [if_neg hm,if_neg (by intro e;apply hm;rw [Nat.succ.inj e]),get_nil]
    rcases four k with h|h|h|h<;>rw [h]<;>rfl
 | q+1,.node v a b c d,n+1,x,k,h=>by
  rw [put_nodeS]
  cases k with
  | zero=>rw [get_ups0,if_neg (by omega)];rfl
  | succ k =>
   have h1:Nat.div n 4<q:=by show n / 4<q;omega
   rw [get_ups,get_put q _ _ x _ h1,get_succ v]
   have e1:Nat.mod k 4=k % 4:=rfl
   have e2:Nat.mod n 4=n % 4:=rfl
   have e3:Nat.div k 4=k / 4:=rfl
   have e4:Nat.div n 4=n / 4:=rfl
   by_cases hm:Nat.mod k 4=Nat.mod n 4
   ·rw [if_pos hm,hm]
    by_cases e:k=n
    ·subst e;rw [if_pos rfl,if_pos rfl]
    ·rw [if_neg (by omega),if_neg (by omega)]
   ·rw [if_neg hm,if_neg (by intro e;apply hm;rw [Nat.succ.inj e])]
theorem get_set (t:Tr α) (n:Nat) (a:Option α) (k:Nat):(t.set n a).get k=if k=n then a else t.get k:=get_put (n+1) t n a k (by omega)
theorem get_set_self (t:Tr α) (n:Nat) (a:Option α):(t.set n a).get n=a:=by rw [get_set,if_pos rfl]
theorem get_set_ne (t:Tr α){n k:Nat}(a:Option α) (h:k≠n):(t.set n a).get k=t.get k:=by rw [get_set,if_neg h]
end Tr
theorem forceN_eq {R:Type}(n:Nat) (k:Nat→R):forceN n k=k n:=by cases n<;>rfl
abbrev Nu:=Nat→Option (Nat×Nat)
mutual
def AV.val (ν:Nu):AV→Option Value
 | .num k n=>some (.int k (.ofNat n))
 | .bool b=>some (.bool b)
 | .flat v=>some v
 | .ptr id off=>match ν id with
  | some p=>some (.pointer (some ⟨p.1,off,none⟩))
  | none=>none
 | .sl id off len cap kn=>match ν id with
  | some p=>match kn with
   | true=>if len≤cap then some (.slice (some ⟨p.1,off,none⟩) len cap) else none
   | false=>if len+cap≤p.2 then some (.slice (some ⟨p.1,off,none⟩) len (p.2-cap)) else none
  | none=>none
 | .se id off off' sub=>match ν id with
  | some p=>if sub≤p.2 then some (.slice (some ⟨p.1,if p.2=sub then off else off',none⟩) 0 (p.2-sub)) else none
  | none=>none
 | .mp id=>match ν id with
  | some p=>some (.map (some p.1))
  | none=>none
 | .fn f a b=>match vals ν a,vals ν b with
  | some x,some y=>some (.func (.func f) x.toArray y.toArray)
  | _,_=>none
 | .agg cs=>match vals ν cs with
  | some x=>some (.agg x.toArray)
  | none=>none
 | .tup cs=>match vals ν cs with
  | some x=>some (.tuple x.toArray)
  | none=>none
 | .yl id=>match ν id with
  | some p=>some (.func (.yield p.1) #[] #[])
  | none=>none
 | .ifc t a=>match AV.val ν a with
  | some v=>some (.iface t v)
  | none=>none
def vals (ν:Nu):List AV→Option (List Value)
 | []=>some []
 | a::l=>match AV.val ν a,vals ν l with
  | some v,some vs=>some (v::vs)
  | _,_=>none
end
def Nu.le (ν ν':Nu):Prop:=∀ id p,ν id=some p→ν' id=some p
theorem Nu.le_refl (ν:Nu):ν.le ν:=fun _ _ h=>h
theorem Nu.le_trans {ν ν' ν'':Nu}(h:ν.le ν') (h':ν'.le ν''):ν.le ν'':=fun id p hp=>h' id p (h id p hp)
def Nu.add (ν:Nu) (id:Nat) (p:Nat×Nat):Nu:=fun k=>if k=id then some p else ν k
theorem Nu.le_add {ν:Nu}{id:Nat}{p:Nat×Nat}(h:ν id=none):ν.le (ν.add id p):=fun k q hq=>by
 unfold Nu.add
 by_cases e:k=id
 ·subst e;rw [h] at hq;cases hq
 ·rw [if_neg e];exact hq
theorem Nu.add_self (ν:Nu) (id:Nat) (p:Nat×Nat):(ν.add id p) id=some p:=by simp [Nu.add]
mutual
theorem AV.val_mono {ν ν':Nu}(h:ν.le ν'):∀ (a:AV){v:Value},a.val ν=some v→a.val ν'=some v
 | .num _ _,v,hv=>hv
 | .bool _,v,hv=>hv
 | .flat _,v,hv=>hv
 | .ptr id off,v,hv=>by
  simp only [AV.val] at hv ⊢
  cases hp:ν id with
  | none=>rw [hp] at hv;cases hv
  | some p=>rw [h id p hp];rw [hp] at hv;exact hv
 | .sl id off len cap kn,v,hv=>by
  simp only [AV.val] at hv ⊢
  cases hp:ν id with
  | none=>rw [hp] at hv;cases hv
  | some p=>rw [h id p hp];rw [hp] at hv;exact hv
 | .se id off off' sub,v,hv=>by
  simp only [AV.val] at hv ⊢
  cases hp:ν id with
  | none=>rw [hp] at hv;cases hv
  | some p=>rw [h id p hp];rw [hp] at hv;exact hv
 | .mp id,v,hv=>by
  simp only [AV.val] at hv ⊢
  cases hp:ν id with
  | none=>rw [hp] at hv;cases hv
  | some p=>rw [h id p hp];rw [hp] at hv;exact hv
 | .yl id,v,hv=>by
  simp only [AV.val] at hv ⊢
  cases hp:ν id with
  | none=>rw [hp] at hv;cases hv
  | some p=>rw [h id p hp];rw [hp] at hv;exact hv
 | .ifc t a,v,hv=>by
  simp only [AV.val] at hv ⊢
  cases ha:AV.val ν a with
  | none=>rw [ha] at hv;cases hv
  | some x=>rw [AV.val_mono h a ha];rw [ha] at hv;exact hv
 | .fn f a b,v,hv=>by
  simp only [AV.val] at hv ⊢
  cases ha:vals ν a with
  | none=>rw [ha] at hv;cases hv
  | some x =>
   cases hb:vals ν b with
   | none=>rw [ha,hb] at hv;cases hv
   | some y=>rw [vals_mono h a ha,vals_mono h b hb];rw [ha,hb] at hv;exact hv
 | .agg cs,v,hv=>by
  simp only [AV.val] at hv ⊢
  cases ha:vals ν cs with
  | none=>rw [ha] at hv;cases hv
  | some x=>rw [vals_mono h cs ha];rw [ha] at hv;exact hv
 | .tup cs,v,hv=>by
  simp only [AV.val] at hv ⊢
  cases ha:vals ν cs with
  | none=>rw [ha] at hv;cases hv
  | some x=>rw [vals_mono h cs ha];rw [ha] at hv;exact hv
theorem vals_mono {ν ν':Nu}(h:ν.le ν'):∀ (l:List AV){vs:List Value},vals ν l=some vs→vals ν' l=some vs
 | [],vs,hv=>hv
 | a::l,vs,hv=>by
  simp only [vals] at hv ⊢
  cases ha:a.val ν with
  | none=>rw [ha] at hv;cases hv
  | some x =>
   cases hb:vals ν l with
   | none=>rw [ha,hb] at hv;cases hv
   | some y=>rw [AV.val_mono h a ha,vals_mono h l hb];rw [ha,hb] at hv;exact hv
end
theorem vals_cons {ν:Nu}{a:AV}{l:List AV}{vs:List Value}:vals ν (a::l)=some vs↔∃ v ws,a.val ν=some v∧vals ν l=some ws∧vs=v::ws:=by
 simp only [vals]
 cases ha:a.val ν with
 | none=>simp
 | some x =>
  cases hb:vals ν l with
  | none=>simp
  | some y=>simp [eq_comm]
theorem vals_cons_mk {ν:Nu}{a:AV}{l:List AV}{v:Value}{ws:List Value}(h1:a.val ν=some v) (h2:vals ν l=some ws):vals ν (a::l)=some (v::ws):=vals_cons.2 ⟨v,ws,h1,h2,rfl⟩
theorem vals_length {ν:Nu}:∀ {l:List AV}{vs:List Value},vals ν l=some vs→vs.length=l.length
 | [],vs,h=>by simp only [vals,si] at h;subst h;rfl
 | a::l,vs,h=>by
  obtain⟨v,ws,_,h2,rfl⟩:=vals_cons.1 h
  simp [vals_length h2]
theorem vals_get {ν:Nu}:∀ {l:List AV}{vs:List Value},vals ν l=some vs→∀ {i:Nat}{a:AV},l[i]?=some a→∃ v,a.val ν=some v∧vs[i]?=some v
 | a::l,vs,h,i,x,hi=>by
  obtain⟨v,ws,h1,h2,rfl⟩:=vals_cons.1 h
  cases i with
  | zero=>simp at hi;subst hi;exact⟨v,h1,rfl⟩
  | succ i=>simpa using vals_get h2 (by simpa using hi)
theorem vals_append {ν:Nu}:∀ {l l':List AV}{vs vs':List Value},vals ν l=some vs→vals ν l'=some vs'→vals ν (l++l')=some (vs++vs')
 | [],l',vs,vs',h,h'=>by simp only [vals,si] at h;subst h;exact h'
 | a::l,l',vs,vs',h,h'=>by
  obtain⟨v,ws,h1,h2,rfl⟩:=vals_cons.1 h
  exact vals_cons_mk h1 (vals_append h2 h')
theorem vals_drop {ν:Nu}:∀ {l:List AV}{vs:List Value}(n:Nat),vals ν l=some vs→vals ν (l.drop n)=some (vs.drop n)
 | l,vs,0,h=>by simpa using h
 | [],vs,n+1,h=>by simp only [vals,si] at h;subst h;rfl
 | a::l,vs,n+1,h=>by
  obtain⟨v,ws,h1,h2,rfl⟩:=vals_cons.1 h
  simpa using vals_drop n h2
theorem vals_take {ν:Nu}:∀ {l:List AV}{vs:List Value}(n:Nat),vals ν l=some vs→vals ν (l.take n)=some (vs.take n)
 | l,vs,0,h=>rfl
 | [],vs,n+1,h=>by simp only [vals,si] at h;subst h;rfl
 | a::l,vs,n+1,h=>by
  obtain⟨v,ws,h1,h2,rfl⟩:=vals_cons.1 h
  simpa using vals_cons_mk h1 (vals_take n h2)
theorem over_vals {ν:Nu}:∀ {vs cs:List AV}{us ws:List Value},vals ν vs=some us→vals ν cs=some ws→vals ν (over vs cs)=some (over us ws)
 | [],cs,us,ws,h,h'=>by simp only [vals,si] at h;subst h;exact h'
 | v::vs,[],us,ws,h,h'=>by
  simp only [vals,si] at h';subst h'
  obtain⟨_,_,_,_,rfl⟩:=vals_cons.1 h
  rfl
 | v::vs,c::cs,us,ws,h,h'=>by
  obtain⟨u,us',h1,h2,rfl⟩:=vals_cons.1 h
  obtain⟨x,xs,h3,h4,rfl⟩:=vals_cons.1 h'
  exact vals_cons_mk h1 (over_vals h2 h4)
theorem splice_vals {ν:Nu}:∀ (n:Nat){vs cs:List AV}{us ws:List Value},vals ν vs=some us→vals ν cs=some ws→vals ν (splice n vs cs)=some (splice n us ws)
 | 0,vs,cs,us,ws,h,h'=>over_vals h h'
 | n+1,vs,[],us,ws,h,h'=>by simp only [vals,si] at h';subst h';rfl
 | n+1,vs,c::cs,us,ws,h,h'=>by
  obtain⟨x,xs,h3,h4,rfl⟩:=vals_cons.1 h'
  exact vals_cons_mk h3 (splice_vals n h h4)
theorem over_length {α:Type}:∀ (vs cs:List α),vs.length≤cs.length→(over vs cs).length=cs.length
 | [],cs,_=>rfl
 | v::vs,[],h=>by simp at h
 | v::vs,c::cs,h=>by simp [over,over_length vs cs (by simpa using h)]
theorem splice_length {α:Type}:∀ (n:Nat) (vs cs:List α),n+vs.length≤cs.length→(splice n vs cs).length=cs.length
 | 0,vs,cs,h=>over_length vs cs (by simpa using h)
 | n+1,vs,[],h=>by simp at h
 | n+1,vs,c::cs,h=>by simp [splice,splice_length n vs cs (by simp at h;omega)]
theorem over_take {α:Type}:∀ (vs cs rest:List α),vs.length≤cs.length→over vs (cs++rest)=over vs cs++rest
 | [],cs,rest,_=>rfl
 | v::vs,[],rest,h=>by simp at h
 | v::vs,c::cs,rest,h=>by simp [over,over_take vs cs rest (by simpa using h)]
theorem splice_take {α:Type}:∀ (n:Nat) (vs cs rest:List α),n+vs.length≤cs.length→splice n vs (cs++rest)=splice n vs cs++rest
 | 0,vs,cs,rest,h=>over_take vs cs rest (by simpa using h)
 | n+1,vs,[],rest,h=>by simp at h
 | n+1,vs,c::cs,rest,h=>by simp [splice,splice_take n vs cs rest (by simp at h;omega)]
theorem lift_val (ν:Nu) (v:Value):(lift v).val ν=some v:=by
 cases v with
 | int k n=>cases n<;>rfl
 | _=>rfl
theorem lifts_vals (ν:Nu):∀ (l:List Value),vals ν (l.map lift)=some l
 | []=>rfl
 | v::l=>vals_cons_mk (lift_val ν v) (lifts_vals ν l)
theorem cellsOf_vals {ν:Nu}{a:AV}{v:Value}(h:a.val ν=some v):vals ν (cellsOf a)=some v.cells.toList:=by
 have one:∀ (a:AV) (v:Value),a.val ν=some v→v.cells=#[v]→vals ν [a]=some v.cells.toList:=fun a v h h'=>by rw [h'];exact vals_cons_mk h rfl
 cases a with
 | flat u =>
  simp only [AV.val,si] at h
  subst h
  cases u with
  | agg cs=>simpa [cellsOf,Value.cells] using lifts_vals ν cs.toList
  | _=>exact vals_cons_mk rfl rfl
 | agg cs =>
  simp only [AV.val] at h
  cases hc:vals ν cs with
  | none=>rw [hc] at h;cases h
  | some x=>rw [hc] at h;simp only [si] at h;subst h;simpa [cellsOf,Value.cells] using hc
 | num k n=>simp only [AV.val,si] at h;subst h;rfl
 | bool b=>simp only [AV.val,si] at h;subst h;rfl
 | ptr id off =>
  refine one _ _ h ?_
  simp only [AV.val] at h
  split at h<;>simp at h;subst h;rfl
 | sl id off len cap kn =>
  refine one _ _ h ?_
  simp only [AV.val] at h
  (repeat' split at h)<;>simp at h<;>subst h<;>rfl
 | se id off off' sub =>
  refine one _ _ h ?_
  simp only [AV.val] at h
  (repeat' split at h)<;>simp at h<;>subst h<;>rfl
 | mp id =>
  refine one _ _ h ?_
  simp only [AV.val] at h
  split at h<;>simp at h;subst h;rfl
 | fn f a b =>
  refine one _ _ h ?_
  simp only [AV.val] at h
  split at h<;>simp at h;subst h;rfl
 | tup cs =>
  refine one _ _ h ?_
  simp only [AV.val] at h
  split at h<;>simp at h;subst h;rfl
 | yl id =>
  refine one _ _ h ?_
  simp only [AV.val] at h
  split at h<;>simp at h;subst h;rfl
 | ifc t a =>
  refine one _ _ h ?_
  simp only [AV.val] at h
  split at h<;>simp at h;subst h;rfl
theorem flat1_val {ν:Nu}{a:AV}{v:Value}(h:flat1 a=some v):a.val ν=some v:=by
 cases a<;>simp [flat1] at h<;>subst h<;>rfl
theorem flats_vals {ν:Nu}:∀ {l:List AV}{vs:List Value},flats l=some vs→vals ν l=some vs
 | [],vs,h=>h
 | a::l,vs,h=>by
  simp only [flats] at h
  split at h
  ·rename_i v hv
   split at h
   ·rename_i us hu
    simp only [si] at h
    subst h
    exact vals_cons_mk (flat1_val hv) (flats_vals hu)
   ·cases h
  ·cases h
theorem flatOf_val {ν:Nu}{a:AV}{v:Value}(h:flatOf a=some v):a.val ν=some v:=by
 cases a with
 | agg cs =>
  simp only [flatOf] at h
  split at h
  ·rename_i vs hv
   simp only [si] at h
   subst h
   simp [AV.val,flats_vals (ν:=ν) hv]
  ·cases h
 | _=>simp [flatOf] at h<;>subst h<;>rfl
def valEs (ν:Nu):List (Value×AV×Nat)→Option (List MapEntry)
 | []=>some []
 | e::l=>match e.2.1.val ν,valEs ν l with
  | some v,some vs=>some (⟨e.1,v,e.2.2⟩::vs)
  | _,_=>none
theorem valEs_mono {ν ν':Nu}(h:ν.le ν'):∀ (l:List (Value×AV×Nat)){vs:List MapEntry},valEs ν l=some vs→valEs ν' l=some vs
 | [],vs,hv=>hv
 | e::l,vs,hv=>by
  simp only [valEs] at hv ⊢
  cases ha:e.2.1.val ν with
  | none=>rw [ha] at hv;cases hv
  | some x =>
   cases hb:valEs ν l with
   | none=>rw [ha,hb] at hv;cases hv
   | some y=>rw [AV.val_mono h _ ha,valEs_mono h l hb];rw [ha,hb] at hv;exact hv
def Blk.holds (ν:Nu) (k:Nat):Blk→Obj→Prop
 | .cells cs,o=>∃ vs T fr,vals ν cs=some vs∧o=.cells vs.toArray T fr∧∀ i,i<vs.length→¬ (fr.1≤i∧i<fr.2)
 | .buf cs z,o=>∃ vs rest T fr,vals ν cs=some vs∧o=.cells (vs++rest).toArray T fr∧(vs++rest).length=k*z∧(∀ i,i<(vs++rest).length→¬ (fr.1≤i∧i<fr.2))∧k≤9223372036854775807
 | .map es clock,o=>∃ l,valEs ν es=some l∧o=.map l.toArray clock
 | .iter mid since seen last,o=>∃ p,ν mid=some p∧o=.mapIter (some p.1) since seen.toArray last
 | .siter s pos,o=>o=.stringIter s pos
 | .loop _ N S ps a b st p,o=>∃ r:Loop,o=.loop r∧(st=0→r.state=.ready)∧(st=2→r.state=.done)∧r.pending=p∧r.params=ps.toArray∧r.assign=a∧r.body=b∧r.tmps.size=N∧∀ k x,S.get k=some x→∃ v,AV.val ν x=some v∧r.tmps.getD k undef=v
theorem Blk.holds_mono {ν ν':Nu}(h:ν.le ν'){k:Nat}{o:Obj}:∀ (b:Blk),b.holds ν k o→b.holds ν' k o
 | .cells cs,⟨vs,T,fr,h1,h2⟩=>⟨vs,T,fr,vals_mono h cs h1,h2⟩
 | .buf cs z,⟨vs,rest,T,fr,h1,h2⟩=>⟨vs,rest,T,fr,vals_mono h cs h1,h2⟩
 | .map es clock,⟨l,h1,h2⟩=>⟨l,valEs_mono h es h1,h2⟩
 | .iter mid since seen last,⟨p,h1,h2⟩=>⟨p,h mid p h1,h2⟩
 | .siter s pos,hh=>hh
 | .loop _ N S ps a b st p,⟨r,h1,h2,h3,h4,h5,h6,h7,h8,h9⟩=>⟨r,h1,h2,h3,h4,h5,h6,h7,h8,fun k x hx=>by
  obtain⟨v,k1,k2⟩:=h9 k x hx
  exact⟨v,AV.val_mono h x k1,k2⟩⟩
structure MemOK (ν:Nu) (m:AM) (w:World):Prop where
 fresh:∀ id,m.next≤id→ν id=none
 at_:∀ id blk,m.get id=some blk→∃ p o,ν id=some p∧w.heap[p.1]?=some o∧blk.holds ν p.2 o
 inj:∀ id id' blk blk' p p',m.get id=some blk→m.get id'=some blk'→ν id=some p→ν id'=some p'→p.1=p'.1→id=id'
def Mem (ν:Nu) (m:AM):Asn :=
 ⟨fun b=>∃ id blk p,m.get id=some blk∧ν id=some p∧p.1=b,MemOK ν m,fun w w' h hm =>
  ⟨hm.fresh,fun id blk hg=>by
   obtain⟨p,o,h1,h2,h3⟩:=hm.at_ id blk hg
   exact⟨p,o,h1,(h p.1 ⟨id,blk,p,hg,h1,rfl⟩).trans h2,h3⟩,hm.inj⟩⟩
section
variable {ν : Nu} {m : AM} {w w0 : World} {L : List Asn}
theorem MemOK.ltNext (h:MemOK ν m w){id:Nat}{blk:Blk}(hg:m.get id=some blk):id<m.next:=by
 obtain⟨p,o,h1,_⟩:=h.at_ id blk hg
 apply Nat.lt_of_not_le
 intro hle
 rw [h.fresh id hle] at h1
 cases h1
theorem get_new (m:AM) (b:Blk) (k:Nat):(m.new b).get k=if k=m.next then some b else m.get k:=Tr.get_set _ _ _ _
theorem get_setM (m:AM) (id:Nat) (b:Blk) (k:Nat):(m.set id b).get k=if k=id then some b else m.get k:=Tr.get_set _ _ _ _
theorem get_del (m:AM) (id k:Nat):(m.del id).get k=if k=id then none else m.get k:=Tr.get_set _ _ _ _
theorem St.mNew (hs:St w0 (Mem ν m::L) w) (b:Blk) (o:Obj) (cap:Nat) (hb:b.holds (ν.add m.next (w.heap.size,cap)) cap o) :
 St w0 (Mem (ν.add m.next (w.heap.size,cap)) (m.new b)::L) { w with heap:=w.heap.push o }∧ν.le (ν.add m.next (w.heap.size,cap)):=by
 have hm:MemOK ν m w:=hs.holds _ (List.mem_cons_self ..)
 have hle:ν.le (ν.add m.next (w.heap.size,cap)):=Nu.le_add (hm.fresh _ (Nat.le_refl _))
 refine⟨St.step hs rfl rfl rfl (by simp) (fun k hk _=>by simp only [Array.getElem?_push];rw [if_neg (by omega)]) ⟨?_,?_,?_⟩ ?_,hle⟩
 ·intro id hid
  have:m.next+1≤id:=hid
  rw [Nu.add,if_neg (by omega)]
  exact hm.fresh id (by omega)
 ·intro id blk hg
  rw [get_new] at hg
  by_cases e:id=m.next
  ·subst e
   rw [if_pos rfl] at hg
   cases hg
   exact⟨_,o,Nu.add_self _ _ _,by simp,hb⟩
  ·rw [if_neg e] at hg
   obtain⟨p,o',h1,h2,h3⟩:=hm.at_ id blk hg
   refine⟨p,o',hle id p h1,?_,Blk.holds_mono hle _ h3⟩
   have:=(Array.getElem?_eq_some_iff.1 h2).1
   simp only [Array.getElem?_push]
   rw [if_neg (by omega)]
   exact h2
 ·intro id id' blk blk' p p' hg hg' hp hp' he
  rw [get_new] at hg hg'
  have key:∀ (id:Nat) (blk:Blk) (p:Nat×Nat),id≠m.next→m.get id=some blk→(ν.add m.next (w.heap.size,cap)) id=some p→p.1<w.heap.size∧ν id=some p:=by
   intro id blk p hne hg hp
   rw [Nu.add,if_neg hne] at hp
   obtain⟨q,o',h1,h2,_⟩:=hm.at_ id blk hg
   rw [hp] at h1
   cases h1
   exact⟨(Array.getElem?_eq_some_iff.1 h2).1,hp⟩
  by_cases e:id=m.next
  ·by_cases e':id'=m.next
   ·rw [e,e']
   ·rw [if_neg e'] at hg'
    obtain⟨h1,_⟩:=key id' blk' p' e' hg' hp'
    subst e
    rw [Nu.add_self] at hp
    cases hp
    simp only at he
    omega
  ·rw [if_neg e] at hg
   obtain⟨h1,h2⟩:=key id blk p e hg hp
   by_cases e':id'=m.next
   ·subst e'
    rw [Nu.add_self] at hp'
    cases hp'
    simp only at he
    omega
   ·rw [if_neg e'] at hg'
    obtain⟨_,h3⟩:=key id' blk' p' e' hg' hp'
    exact hm.inj id id' blk blk' p p' hg hg' h2 h3 he
 ·intro b' hb'
  obtain⟨id,blk,p,hg,hp,rfl⟩:=hb'
  rw [get_new] at hg
  by_cases e:id=m.next
  ·subst e
   rw [Nu.add_self] at hp
   cases hp
   exact⟨.inr (Nat.le_refl _),by simp⟩
  ·rw [if_neg e] at hg
   rw [Nu.add,if_neg e] at hp
   obtain⟨q,o',h1,h2,_⟩:=hm.at_ id blk hg
   rw [hp] at h1
   cases h1
   have:=(Array.getElem?_eq_some_iff.1 h2).1
   exact⟨.inl ⟨id,blk,p,hg,hp,rfl⟩,by simp;omega⟩
theorem St.mSet (hs:St w0 (Mem ν m::L) w){id:Nat}{blk blk':Blk}{p:Nat×Nat}(hg:m.get id=some blk) (hp:ν id=some p) (o:Obj) (hb:blk'.holds ν p.2 o) :
 St w0 (Mem ν (m.set id blk')::L) { w with heap:=w.heap.setIfInBounds p.1 o }:=by
 have hm:MemOK ν m w:=hs.holds _ (List.mem_cons_self ..)
 have hlt:p.1<w.heap.size:=by
  obtain⟨q,o',h1,h2,_⟩:=hm.at_ id blk hg
  rw [hp] at h1
  cases h1
  exact(Array.getElem?_eq_some_iff.1 h2).1
 have old:∀ (k:Nat) (b:Blk),(m.set id blk').get k=some b→∃ b',m.get k=some b':=by
  intro k b h
  rw [get_setM] at h
  by_cases e:k=id
  ·subst e;exact⟨blk,hg⟩
  ·rw [if_neg e] at h;exact⟨b,h⟩
 refine St.step hs rfl rfl rfl (by simp) (fun k hk hn=>?_) ⟨hm.fresh,?_,?_⟩ ?_
 ·simp only [Array.getElem?_setIfInBounds]
  rw [if_neg (fun e=>hn ⟨id,blk,p,hg,hp,e⟩)]
 ·intro k b h
  rw [get_setM] at h
  by_cases e:k=id
  ·subst e
   rw [if_pos rfl] at h
   cases h
   exact⟨p,o,hp,by simp [hlt],hb⟩
  ·rw [if_neg e] at h
   obtain⟨q,o',h1,h2,h3⟩:=hm.at_ k b h
   refine⟨q,o',h1,?_,h3⟩
   simp only [Array.getElem?_setIfInBounds]
   rw [if_neg (fun e'=>e (hm.inj k id b blk q p h hg h1 hp e'.symm))]
   exact h2
 ·intro k k' b b' q q' h h' hq hq' he
  obtain⟨c,hc⟩:=old k b h
  obtain⟨c',hc'⟩:=old k' b' h'
  exact hm.inj k k' c c' q q' hc hc' hq hq' he
 ·intro b' hb'
  obtain⟨k,b,q,h,hq,rfl⟩:=hb'
  obtain⟨c,hc⟩:=old k b h
  refine⟨.inl ⟨k,c,q,hc,hq,rfl⟩,?_⟩
  obtain⟨q',o',h1,h2,_⟩:=hm.at_ k c hc
  rw [hq] at h1
  cases h1
  have:=(Array.getElem?_eq_some_iff.1 h2).1
  simpa using this
theorem St.mDel (hs:St w0 (Mem ν m::L) w) (id:Nat):St w0 (Mem ν (m.del id)::L) w:=by
 have hm:MemOK ν m w:=hs.holds _ (List.mem_cons_self ..)
 have old:∀ (k:Nat) (b:Blk),(m.del id).get k=some b→m.get k=some b:=by
  intro k b h
  rw [get_del] at h
  by_cases e:k=id
  ·rw [if_pos e] at h;cases h
  ·rw [if_neg e] at h;exact h
 refine St.conv hs (fun _=>⟨hm.fresh,fun k b h=>hm.at_ k b (old k b h),fun k k' b b' q q' h h'=>hm.inj k k' b b' q q' (old k b h) (old k' b' h')⟩) ?_
 rintro b' ⟨k,b,q,h,hq,rfl⟩
 exact⟨k,b,q,old k b h,hq,rfl⟩
theorem St.mMove (hs:St w0 (Mem ν m::L) w){id:Nat}{blk blk':Blk}{p:Nat×Nat}(hg:m.get id=some blk) (hp:ν id=some p) (o:Obj) (hb:blk'.holds (ν.add m.next p) p.2 o) :
 St w0 (Mem (ν.add m.next p) ((m.del id).new blk')::L) { w with heap:=w.heap.setIfInBounds p.1 o }∧ν.le (ν.add m.next p):=by
 have hm:MemOK ν m w:=hs.holds _ (List.mem_cons_self ..)
 have hle:ν.le (ν.add m.next p):=Nu.le_add (hm.fresh _ (Nat.le_refl _))
 have hlt:p.1<w.heap.size:=by
  obtain⟨q,o',h1,h2,_⟩:=hm.at_ id blk hg
  rw [hp] at h1
  cases h1
  exact(Array.getElem?_eq_some_iff.1 h2).1
 have hidn:=hm.ltNext hg
 have look:∀ (k:Nat) (b:Blk),((m.del id).new blk').get k=some b→(k=m.next∧b=blk')∨(k≠m.next∧k≠id∧m.get k=some b):=by
  intro k b h
  rw [get_new] at h
  by_cases e:k=m.next
  ·have e':k=(m.del id).next:=e
   rw [if_pos e'] at h;cases h;exact .inl ⟨e,rfl⟩
  ·have e':¬ k=(m.del id).next:=e
   rw [if_neg e',get_del] at h
   by_cases e2:k=id
   ·rw [if_pos e2] at h;cases h
   ·rw [if_neg e2] at h;exact .inr ⟨e,e2,h⟩
 refine⟨St.step hs rfl rfl rfl (by simp) (fun k hk hn=>?_) ⟨?_,?_,?_⟩ ?_,hle⟩
 ·simp only [Array.getElem?_setIfInBounds]
  rw [if_neg (fun e=>hn ⟨id,blk,p,hg,hp,e⟩)]
 ·intro k hk
  have:m.next+1≤k:=hk
  rw [Nu.add,if_neg (by omega)]
  exact hm.fresh k (by omega)
 ·intro k b h
  rcases look k b h with⟨rfl,rfl⟩|⟨e1,e2,h⟩
  ·exact⟨p,o,Nu.add_self _ _ _,by simp [hlt],hb⟩
  ·obtain⟨q,o',h1,h2,h3⟩:=hm.at_ k b h
   refine⟨q,o',hle k q h1,?_,Blk.holds_mono hle _ h3⟩
   simp only [Array.getElem?_setIfInBounds]
   rw [if_neg (fun e'=>e2 (hm.inj k id b blk q p h hg h1 hp e'.symm))]
   exact h2
 ·intro k k' b b' q q' h h' hq hq' he
  rcases look k b h with⟨e0,-⟩|⟨e1,e2,hh⟩
  ·rcases look k' b' h' with⟨e0',-⟩|⟨e3,e4,hh'⟩
   ·rw [e0,e0']
   ·rw [e0,Nu.add_self] at hq
    cases hq
    rw [Nu.add,if_neg e3] at hq'
    exact absurd (hm.inj k' id b' blk q' p hh' hg hq' hp he.symm) e4
  ·rw [Nu.add,if_neg e1] at hq
   rcases look k' b' h' with⟨e0',-⟩|⟨e3,e4,hh'⟩
   ·rw [e0',Nu.add_self] at hq'
    cases hq'
    exact absurd (hm.inj k id b blk q p hh hg hq hp he) e2
   ·rw [Nu.add,if_neg e3] at hq'
    exact hm.inj k k' b b' q q' hh hh' hq hq' he
 ·intro b' hb'
  obtain⟨k,b,q,h,hq,rfl⟩:=hb'
  rcases look k b h with⟨rfl,rfl⟩|⟨e1,e2,h⟩
  ·rw [Nu.add_self] at hq
   cases hq
   exact⟨.inl ⟨id,blk,p,hg,hp,rfl⟩,by simpa using hlt⟩
  ·rw [Nu.add,if_neg e1] at hq
   obtain⟨q',o',h1,h2,_⟩:=hm.at_ k b h
   rw [hq] at h1
   cases h1
   have:=(Array.getElem?_eq_some_iff.1 h2).1
   exact⟨.inl ⟨k,b,q,h,hq,rfl⟩,by simpa using this⟩
end
end Go.Ev
namespace Go.Ev
open Go.Sx
set_option linter.unusedVariables false
set_option linter.unusedSimpArgs false
structure FitsA (δ:List Deferred) (ν:Nu) (N:Nat) (S:AE) (a:Act):Prop where
 defers:a.defers=δ
 size:a.tmps.size=N
 at_:∀ k x,S.get k=some x→∃ v,x.val ν=some v∧a.tmps.getD k undef=v
def Glob (G:Nat→Option (List Value)) (w:World):Prop:=∀ g vs,G g=some vs→∀ i,i<vs.length→w.cell? ⟨g,i,none⟩=vs[i]?
section
variable {δ : List Deferred} {P : Program} {G : Nat → Option (List Value)} {ν : Nu} {N : Nat} {S : AE} {a : Act} {m : AM} {w : World}
theorem FitsA.mono {ν':Nu}(h:FitsA δ ν N S a) (hle:ν.le ν'):FitsA δ ν' N S a :=
 ⟨h.defers,h.size,fun k x hx=>by obtain⟨v,h1,h2⟩:=h.at_ k x hx;exact⟨v,AV.val_mono hle x h1,h2⟩⟩
theorem FitsA.op (hf:FitsA δ ν N S a){x:Operand}{av:AV}(h:opnd S x=some av):∃ v,av.val ν=some v∧a.eval x=v:=by
 cases x with
 | tmp t=>exact hf.at_ t av h
 | const c =>
  simp only [opnd,si] at h
  subst h
  exact⟨c,lift_val ν c,rfl⟩
 | global g =>
  simp only [opnd,si] at h
  subst h
  exact⟨_,rfl,rfl⟩
 | func f =>
  simp only [opnd,si] at h
  subst h
  exact⟨_,rfl,rfl⟩
theorem FitsA.ops (hf:FitsA δ ν N S a):∀ {l:List Operand}{avs:List AV},opnds S l=some avs→vals ν avs=some (l.map a.eval)
 | [],avs,h=>by simp only [opnds,si] at h;subst h;rfl
 | x::l,avs,h=>by
  simp only [opnds] at h
  split at h
  ·rename_i b hb
   split at h
   ·rename_i bs hbs
    simp only [si] at h
    subst h
    obtain⟨v,h1,h2⟩:=hf.op hb
    simp only [List.map_cons,h2]
    exact vals_cons_mk h1 (FitsA.ops hf hbs)
   ·cases h
  ·cases h
theorem fopnd_eq (hf:FitsA δ ν N S a){x:Operand}{av:AV}{v:Value}(h:opnd S x=some av) (hv:flatOf av=some v):a.eval x=fopnd S x:=by
 obtain⟨u,h1,h2⟩:=hf.op h
 have h3:=flatOf_val (ν:=ν) hv
 rw [h1] at h3
 cases h3
 simp only [fopnd,h,hv,h2]
theorem flatOps_eq (hf:FitsA δ ν N S a):∀ {l:List Operand},flatOps S l=true→∀ x∈l,a.eval x=fopnd S x
 | y::l,h,x,hx=>by
  simp only [flatOps] at h
  split at h
  ·rename_i b hb
   split at h
   ·rename_i v hv
    rcases List.mem_cons.1 hx with rfl|hx
    ·exact fopnd_eq hf hb hv
    ·exact flatOps_eq hf h x hx
   ·cases h
  ·cases h
theorem genOp_sound (hf:FitsA δ ν N S a){o:Oper}{av:AV}(h:genOp P S o=some av) (w:World):∃ v,av.val ν=some v∧(execOp a.eval o).run P w=.ok (.value v) w:=by
 unfold genOp at h
 cases hs:isSelect o.op with
 | true=>rw [hs] at h;cases h
 | false =>
  rw [hs] at h
  cases hp:flatOps S o.op.operands.toList with
  | false=>rw [hp] at h;cases h
  | true =>
   rw [hp] at h
   simp only [cond_true,cond_false] at h
   split at h
   ·rename_i ns v hd
    split at h
    ·simp only [si] at h
     subst h
     refine⟨v,lift_val ν v,?_⟩
     rw [execOp_congr o (fun cs b e=>by rw [e] at hs;simp [isSelect] at hs) fun x hx=>flatOps_eq hf hp x (Array.mem_toList_iff.2 hx)]
     exact drive_sound _ _ _ _ hd trivial
    ·cases h
   ·cases h
theorem orGen_sound (hf:FitsA δ ν N S a){o:Oper}{r:Option AV}{av:AV}(h:orGen P S o r=some av) (w:World)
 (hr:r=some av→∃ v,av.val ν=some v∧(execOp a.eval o).run P w=.ok (.value v) w):∃ v,av.val ν=some v∧(execOp a.eval o).run P w=.ok (.value v) w:=by
 unfold orGen at h
 cases r with
 | some b=>exact hr (by simpa using h)
 | none=>exact genOp_sound hf h w
theorem cellsAt_spec (hm:MemOK ν m w){id:Nat}{cs:List AV}(h:cellsAt m id=some cs) :
 ∃ p vs rest T fr,ν id=some p∧vals ν cs=some vs∧w.heap[p.1]?=some (.cells (vs++rest).toArray T fr)∧∀ i,i<(vs++rest).length→¬ (fr.1≤i∧i<fr.2):=by
 unfold cellsAt at h
 split at h
 ·rename_i cs' hg
  simp only [si] at h
  subst h
  obtain⟨p,o,h1,h2,vs,T,fr,h3,rfl,h4⟩:=hm.at_ id _ hg
  exact⟨p,vs,[],T,fr,h1,h3,by simpa using h2,by simpa using h4⟩
 ·rename_i cs' z hg
  simp only [si] at h
  subst h
  obtain⟨p,o,h1,h2,vs,rest,T,fr,h3,rfl,h4,h5⟩:=hm.at_ id _ hg
  exact⟨p,vs,rest,T,fr,h1,h3,h2,h5.1⟩
 ·cases h
theorem cell_of {w:World}{b:Nat}{vs rest:List Value}{T:TypeId}{fr:Nat×Nat}(h:w.heap[b]?=some (.cells (vs++rest).toArray T fr)){i:Nat}(hi:i<vs.length):w.cell? ⟨b,i,none⟩=vs[i]?:=by
 simp only [World.cell?,h]
 simp [List.getElem?_append_left hi]
theorem cut_spec {cs l:List AV}{off n:Nat}(h:cut? cs off n=some l):off+n≤cs.length∧l=(cs.drop off).take n:=by
 unfold cut? at h
 cases hb:Nat.ble (off+n) cs.length with
 | false=>rw [hb] at h;cases h
 | true =>
  rw [hb] at h
  simp only [cond_true,si] at h
  exact⟨Nat.le_of_ble_eq_true hb,h.symm⟩
theorem vals_cut {cs l:List AV}{vs:List Value}{off n:Nat}(h:cut? cs off n=some l) (hv:vals ν cs=some vs):vals ν l=some ((vs.drop off).take n)∧off+n≤vs.length:=by
 obtain⟨h1,rfl⟩:=cut_spec h
 exact⟨vals_take n (vals_drop off hv),by rw [vals_length hv];exact h1⟩
theorem aggSize_some {t:TypeId}{n:Nat}(h:aggSize P t=some (some n)):(∀ w,(isAgg t).run P w=.ok true w)∧∃ ti,P.info? t=some ti∧ti.size=n:=by
 unfold aggSize at h
 split at h
 ·rename_i fs hu
  cases hi:P.info? t with
  | none=>rw [hi] at h;cases h
  | some ti=>rw [hi] at h;simp only [si] at h;exact⟨fun w=>isAgg_struct hu w,ti,rfl,h⟩
 ·rename_i k e hu
  cases hi:P.info? t with
  | none=>rw [hi] at h;cases h
  | some ti=>rw [hi] at h;simp only [si] at h;exact⟨fun w=>isAgg_array hu w,ti,rfl,h⟩
 ·cases h
 ·cases h
theorem aggSize_none {t:TypeId}(h:aggSize P t=some none) (w:World):(isAgg t).run P w=.ok false w:=by
 unfold aggSize at h
 split at h
 ·split at h<;>cases h
 ·split at h<;>cases h
 ·rename_i d h1 h2 hu
  simp only [isAgg,Sem.run_bind,run_underlying hu,Result.andThen_ok]
  cases d<;>first|rfl|(exact absurd rfl (h1 _))|(exact absurd rfl (h2 _ _))
 ·cases h
theorem partA_part {t:TypeId}{cs:List AV}{vs:List Value}{off:Nat}{av:AV}(h:partA P t cs off=some av) (hv:vals ν cs=some vs) (w:World) :
 ∃ v,av.val ν=some v∧(part t vs.toArray off).run P w=.ok v w:=by
 unfold partA at h
 split at h
 ·rename_i n hn
  split at h
  ·rename_i l hl
   simp only [si] at h
   subst h
   obtain⟨h1,ti,h2,h3⟩:=aggSize_some hn
   obtain⟨h4,h5⟩:=vals_cut hl hv
   refine⟨.agg ((vs.drop off).take n).toArray,by simp [AV.val,h4],?_⟩
   simp only [part,Sem.run_bind,h1,Result.andThen_ok,if_true,sizeOf,typeInfo,run_program,h2,Sem.run_pure]
   congr 2
   apply Array.ext'
   rw [Array.toList_extract,List.extract_eq_take_drop]
   simp [h3]
  ·cases h
 ·rename_i hn
  obtain⟨v,h1,h2⟩:=vals_get hv h
  refine⟨v,h1,?_⟩
  have h3:vs.toArray[off]?=some v:=by simpa using h2
  simp only [part,Sem.run_bind,aggSize_none hn,Result.andThen_ok,Bool.false_eq_true,if_false,h3,Sem.run_pure]
 ·cases h
theorem partA_load {t:TypeId}{cs:List AV}{vs:List Value}{off b:Nat}{av:AV}(h:partA P t cs off=some av) (hv:vals ν cs=some vs){w:World}(hc:∀ i,i<vs.length→w.cell? ⟨b,i,none⟩=vs[i]?) :
 ∃ v,av.val ν=some v∧(loadVar t ⟨b,off,none⟩).run P w=.ok v w:=by
 unfold partA at h
 split at h
 ·rename_i n hn
  split at h
  ·rename_i l hl
   simp only [si] at h
   subst h
   obtain⟨h1,ti,h2,h3⟩:=aggSize_some hn
   obtain⟨h4,h5⟩:=vals_cut hl hv
   refine⟨.agg ((vs.drop off).take n).toArray,by simp [AV.val,h4],?_⟩
   refine run_loadVar_agg h2 h1 _ _ ?_ ?_
   ·rw [h3]
    simp only [List.size_toArray,List.length_take,List.length_drop]
    omega
   ·intro i hi
    simp only [List.size_toArray,List.length_take,List.length_drop] at hi
    rw [add_mk,hc (off+i) (by omega)]
    simp only [List.getElem?_toArray]
    rw [List.getElem?_take,if_pos (by omega),List.getElem?_drop]
  ·cases h
 ·rename_i hn
  obtain⟨v,h1,h2⟩:=vals_get hv h
  refine⟨v,h1,?_⟩
  have hlt:off<vs.length:=(List.getElem?_eq_some_iff.1 h2).1
  have h3:w.cell? ⟨b,off,none⟩=some v:=(hc off hlt).trans h2
  simp only [loadVar,Sem.run_bind,aggSize_none hn,Result.andThen_ok,Bool.false_eq_true,if_false]
  simp [load,Sem.run,h3]
 ·cases h
theorem loadA_sound (hm:MemOK ν m w) (hG:Glob G w){t:TypeId}{x av:AV}{u:Value}(hx:x.val ν=some u) (h:loadA P G m t x=some av):∃ ad v,u=.pointer (some ad)∧av.val ν=some v∧(loadVar t ad).run P w=.ok v w:=by
 unfold loadA at h
 split at h
 ·rename_i id off
  split at h
  ·rename_i cs hc
   obtain⟨p,vs,rest,T,fr,h1,h2,h3,h4⟩:=cellsAt_spec hm hc
   simp only [AV.val,h1,si] at hx
   subst hx
   obtain⟨v,h5,h6⟩:=partA_load h h2 (b:=p.1) fun i hi=>cell_of h3 hi
   exact⟨_,v,rfl,h5,h6⟩
  ·cases h
 ·rename_i g off
  simp only [AV.val,si] at hx
  subst hx
  split at h
  ·rename_i vs hg
   obtain⟨v,h5,h6⟩:=partA_load h (lifts_vals ν vs) (b:=g) (fun i hi=>hG g vs hg i hi)
   exact⟨_,v,rfl,h5,h6⟩
  ·cases h
 ·cases h
theorem run_load {o:Oper}{t:TypeId}{x:Operand}(ho:o.op=.load t x){ρ:Operand→Value}{ad:Addr}{v:Value}(hx:ρ x=.pointer (some ad)) (h:(loadVar t ad).run P w=.ok v w):(execOp ρ o).run P w=.ok (.value v) w:=by
 simp only [execOp,ho,Instr.loadAt,hx,Instr.sureAddr,Sem.run_bind,Sem.run_pure,Result.andThen_ok,h]
theorem intN_spec {k:IntKind}{n:Nat}{av:AV}(h:intN k n=some av):av.val ν=some (.int k (k.wrap (n:Int))):=by
 have wr:∀ (k:IntKind) (z:Int),AV.val ν (.num k z.toNat)=some (.int k (Int.ofNat z.toNat)):=fun _ _=>rfl
 cases k<;>simp only [intN,forceN_eq] at h
 case i8=>cases h
 case i16=>cases h
 case i32 =>
  cases hb:Nat.ble n 2147483647 with
  | false=>rw [hb] at h;cases h
  | true =>
   rw [hb] at h
   have h1:=Nat.le_of_ble_eq_true hb
   simp only [cond_true,si] at h
   subst h
   have:IntKind.i32.wrap (n:Int)=(n:Int):=by
    have e:(n:Int) % 4294967296=n:=Int.emod_eq_of_lt (by omega) (by omega)
    have e2:¬ ((2147483648:Int)≤(n:Int)):=by omega
    simp [IntKind.wrap,IntKind.bits,IntKind.signed,e,e2]
   rw [this];rfl
 case i64 =>
  cases hb:Nat.ble n 9223372036854775807 with
  | false=>rw [hb] at h;cases h
  | true =>
   rw [hb] at h
   have h1:=Nat.le_of_ble_eq_true hb
   simp only [cond_true,si] at h
   subst h
   have:IntKind.i64.wrap (n:Int)=(n:Int):=i64w (by omega) (by omega)
   rw [this];rfl
 all_goals
  simp only [si] at h
  subst h
  simp only [AV.val,si,Value.int.injEq,true_and]
  simp [IntKind.wrap,IntKind.bits,IntKind.signed]
theorem natBin_intN {k:IntKind}{z:Int}{n:Nat}{av:AV}(h:intN k n=some av) (hz:z=(n:Int)):av.val ν=some (.int k (k.wrap z)):=by rw [hz];exact intN_spec h
theorem uMod_spec {k:IntKind}{M:Nat}(h:uMod k=some M):M=2 ^ k.bits∧k.signed=false:=by
 cases k<;>simp [uMod] at h<;>subst h<;>exact⟨by decide,rfl⟩
theorem uwrap {k:IntKind}{M n:Nat}(h:uMod k=some M) (hn:n<M):k.wrap (n:Int)=(n:Int):=by
 obtain⟨h1,h2⟩:=uMod_spec h
 subst h1
 simp only [IntKind.wrap,h2,Bool.false_and]
 have:((n:Int) % (2 ^ k.bits:Int))=(n:Int):=Int.emod_eq_of_lt (by omega) (by exact_mod_cast hn)
 simpa using this
theorem bitsN_spec {k:IntKind}{x y r:Nat}{av:AV}(h:bitsN k x y r=some av):∃ M,uMod k=some M∧x<M∧y<M∧av=.num k r:=by
 unfold bitsN at h
 split at h
 ·rename_i M hM
  cases hb:(Nat.ble (x+1) M && Nat.ble (y+1) M) with
  | false=>rw [hb] at h;cases h
  | true =>
   rw [hb] at h
   simp only [Bool.and_eq_true] at hb
   simp only [cond_true,forceN_eq,si] at h
   have h1:=Nat.le_of_ble_eq_true hb.1
   have h2:=Nat.le_of_ble_eq_true hb.2
   exact⟨M,hM,by omega,by omega,h.symm⟩
 ·cases h
theorem ofInt_toNat {k:IntKind}{n:Nat}(h:n<2 ^ k.bits):(BitVec.ofInt k.bits (n:Int)).toNat=n:=by
 simp only [BitVec.ofInt_natCast,BitVec.toNat_ofNat]
 exact Nat.mod_eq_of_lt h
theorem beq_ble (x y:Nat):Nat.beq x y=decide (x=y):=by
 cases h:Nat.beq x y with
 | true=>rw [decide_eq_true (Nat.eq_of_beq_eq_true h)]
 | false=>rw [decide_eq_false (Nat.ne_of_beq_eq_false h)]
theorem ble_dec (x y:Nat):Nat.ble x y=decide (x≤y):=by
 cases h:Nat.ble x y with
 | true=>rw [decide_eq_true (Nat.le_of_ble_eq_true h)]
 | false=>rw [decide_eq_false fun hle=>by rw [Nat.ble_eq_true_of_le hle] at h;cases h]
theorem beqI (x y:Nat):(Int.ofNat x == Int.ofNat y)=Nat.beq x y:=by
 rw [beq_ble,Bool.eq_iff_iff]
 simp only [beq_iff_eq,decide_eq_true_eq]
 exact⟨fun h=>Int.ofNat.inj h,fun h=>h▸rfl⟩
theorem natBin_sound {op:BinOp}{k:IntKind}{x y:Nat}{av:AV}(hs:op≠.shl∧op≠.shr) (t:TypeId) (h:natBin op k x y=some av):∃ v,av.val ν=some v∧binOp op t (.int k (.ofNat x)) (.int k (.ofNat y))=.pure v:=by
 cases op<;>simp only [natBin] at h
 case shl=>exact absurd rfl hs.1
 case shr=>exact absurd rfl hs.2
 case add=>exact⟨_,natBin_intN h (z:=Int.ofNat x+Int.ofNat y) rfl,by simp [binOp,Op.intArith];rfl⟩
 case sub =>
  cases hb:Nat.ble y x with
  | false=>rw [hb] at h;cases h
  | true =>
   rw [hb] at h
   have h1:=Nat.le_of_ble_eq_true hb
   exact⟨_,natBin_intN h (z:=Int.ofNat x-Int.ofNat y) (by simp only [Int.ofNat_eq_natCast];omega),by simp [binOp,Op.intArith];rfl⟩
 case mul=>exact⟨_,natBin_intN h (z:=Int.ofNat x*Int.ofNat y) rfl,by simp [binOp,Op.intArith];rfl⟩
 case eql =>
  cases h
  refine⟨_,rfl,?_⟩
  simp only [binOp,Op.intCmp,ne_eq,not_true_eq_false,if_false,beqI]
  rfl
 case neq =>
  cases h
  refine⟨_,rfl,?_⟩
  simp only [binOp,Op.intCmp,ne_eq,not_true_eq_false,if_false,bne,beqI]
  rfl
 case lss=>cases h;exact⟨_,rfl,by simp [binOp,Op.intCmp,ble_dec,Nat.succ_le_iff];rfl⟩
 case leq=>cases h;exact⟨_,rfl,by simp [binOp,Op.intCmp,ble_dec];rfl⟩
 case gtr=>cases h;exact⟨_,rfl,by simp [binOp,Op.intCmp,ble_dec,Nat.succ_le_iff];rfl⟩
 case geq=>cases h;exact⟨_,rfl,by simp [binOp,Op.intCmp,ble_dec];rfl⟩
 case and =>
  obtain⟨M,hM,hx,hy,rfl⟩:=bitsN_spec h
  obtain⟨rfl,h2⟩:=uMod_spec hM
  refine⟨_,rfl,?_⟩
  simp only [binOp,Op.intBits,ne_eq,not_true_eq_false,if_false,Int.ofNat_eq_natCast,BitVec.toNat_and,ofInt_toNat hx,ofInt_toNat hy]
  rw [uwrap hM (Nat.lt_of_le_of_lt Nat.and_le_left hx)]
  rfl
 case or =>
  obtain⟨M,hM,hx,hy,rfl⟩:=bitsN_spec h
  obtain⟨rfl,h2⟩:=uMod_spec hM
  refine⟨_,rfl,?_⟩
  simp only [binOp,Op.intBits,ne_eq,not_true_eq_false,if_false,Int.ofNat_eq_natCast,BitVec.toNat_or,ofInt_toNat hx,ofInt_toNat hy]
  rw [uwrap hM (Nat.or_lt_two_pow hx hy)]
  rfl
 case xor =>
  obtain⟨M,hM,hx,hy,rfl⟩:=bitsN_spec h
  obtain⟨rfl,h2⟩:=uMod_spec hM
  refine⟨_,rfl,?_⟩
  simp only [binOp,Op.intBits,ne_eq,not_true_eq_false,if_false,Int.ofNat_eq_natCast,BitVec.toNat_xor,ofInt_toNat hx,ofInt_toNat hy]
  rw [uwrap hM (Nat.xor_lt_two_pow hx hy)]
  rfl
 case quo =>
  cases hb:Nat.beq y 0 with
  | true=>rw [hb] at h;cases h
  | false =>
   rw [hb] at h
   have h1:=Nat.ne_of_beq_eq_false hb
   refine⟨_,natBin_intN h (z:=(Int.ofNat x).tdiv (Int.ofNat y)) rfl,?_⟩
   have h2:¬ (Int.ofNat y=0):=by simp only [Int.ofNat_eq_natCast];omega
   simp only [binOp,Op.intDiv,ne_eq,not_true_eq_false,if_false,h2]
   rfl
 case rem =>
  cases hb:Nat.beq y 0 with
  | true=>rw [hb] at h;cases h
  | false =>
   rw [hb] at h
   have h1:=Nat.ne_of_beq_eq_false hb
   simp only [cond_false,forceN_eq,si] at h
   subst h
   have h2:¬ (Int.ofNat y=0):=by simp only [Int.ofNat_eq_natCast];omega
   refine⟨_,rfl,?_⟩
   simp only [binOp,Op.intDiv,ne_eq,not_true_eq_false,if_false,h2]
   rfl
 all_goals cases h
theorem kindNo_inj {k k':IntKind}(h:Nat.beq (kindNo k) (kindNo k')=true):k=k':=by
 cases k<;>cases k' <;> first|rfl|(exact absurd h (by decide))
theorem numBin_sound {op:BinOp}{k k':IntKind}{x y:Nat}{av:AV}(t:TypeId) (h:numBin op k x k' y=some av):∃ v,av.val ν=some v∧binOp op t (.int k (.ofNat x)) (.int k' (.ofNat y))=.pure v:=by
 by_cases h1:op=.shl
 ·subst h1
  simp only [numBin] at h
  refine⟨_,natBin_intN h (z:=Int.ofNat x*2 ^ (min (Int.ofNat y).toNat k.bits)) (by simp),?_⟩
  have h2:¬ (Int.ofNat y<0):=by simp only [Int.ofNat_eq_natCast];omega
  simp only [binOp,Op.shift,h2,if_false]
  rfl
 by_cases h2:op=.shr
 ·subst h2
  simp only [numBin,forceN_eq,si] at h
  subst h
  have h2:¬ (Int.ofNat y<0):=by simp only [Int.ofNat_eq_natCast];omega
  refine⟨_,rfl,?_⟩
  simp only [binOp,Op.shift,h2,if_false]
  have h3:(Int.ofNat x).fdiv (2 ^ (min (Int.ofNat y).toNat k.bits))=Int.ofNat (x / 2 ^ (min y k.bits)):=by
   have e:(2 ^ (min (Int.ofNat y).toNat k.bits):Int)=((2 ^ (min y k.bits):Nat):Int):=by simp
   rw [e,Int.fdiv_eq_ediv_of_nonneg _ (Int.natCast_nonneg _)]
   rfl
  rw [h3]
  rfl
 have h3:numBin op k x k' y=bif Nat.beq (kindNo k) (kindNo k') then natBin op k x y else none:=by
  cases op<;>first|rfl|(exact absurd rfl h1)|(exact absurd rfl h2)
 rw [h3] at h
 cases hb:Nat.beq (kindNo k) (kindNo k') with
 | false=>rw [hb] at h;cases h
 | true =>
  rw [hb] at h
  obtain rfl:=kindNo_inj hb
  exact natBin_sound ⟨h1,h2⟩ t h
theorem binA_sound {op:BinOp}{x y av:AV}{u u':Value}(hx:x.val ν=some u) (hy:y.val ν=some u') (t:TypeId) (h:binA op x y=some av) :
 ∃ k k' n n' v,u=.int k n∧u'=.int k' n'∧av.val ν=some v∧binOp op t u u'=.pure v:=by
 unfold binA at h
 split at h
 ·rename_i k n
  split at h
  ·rename_i k' n'
   simp only [AV.val,si] at hx hy
   subst hx hy
   obtain⟨v,h1,h2⟩:=numBin_sound (ν:=ν) t h
   exact⟨k,k',_,_,v,rfl,rfl,h1,h2⟩
  ·cases h
 ·cases h
theorem run_bin_int {o:Oper}{op:BinOp}{t t':TypeId}{x y:Operand}(ho:o.op=.binOp op t x y t'){ρ:Operand→Value}{k k':IntKind}{n n':Int}{v:Value}(hx:ρ x=.int k n) (hy:ρ y=.int k' n') (h:binOp op t (.int k n) (.int k' n')=.pure v) (w:World) :
 (execOp ρ o).run P w=.ok (.value v) w:=by
 have hg:(eqGuard op t x y (.int k n) (.int k' n')).run P w=.ok () w:=by
  unfold eqGuard
  split<;>simp
 simp only [execOp,ho,hx,hy,Sem.run_bind,hg,Result.andThen_ok,h]
 rfl
end
section
variable {δ : List Deferred} {P : Program} {G : Nat → Option (List Value)} {ν : Nu} {N : Nat} {S : AE} {a : Act} {m : AM} {w : World}
theorem ptr_val {id off:Nat}{v:Value}(h:AV.val ν (.ptr id off)=some v):∃ p,ν id=some p∧v=.pointer (some ⟨p.1,off,none⟩):=by
 simp only [AV.val] at h
 cases hp:ν id with
 | none=>rw [hp] at h;cases h
 | some p=>rw [hp] at h;simp only [si] at h;exact⟨p,rfl,h.symm⟩
theorem sl_val {id off len cap:Nat}{kn:Bool}{v:Value}(h:AV.val ν (.sl id off len cap kn)=some v) :
 ∃ p c,ν id=some p∧v=.slice (some ⟨p.1,off,none⟩) len c∧len≤c∧(kn=true→c=cap)∧(kn=false→c+cap=p.2):=by
 simp only [AV.val] at h
 cases hp:ν id with
 | none=>rw [hp] at h;cases h
 | some p =>
  rw [hp] at h
  cases kn with
  | true =>
   simp only at h
   split at h
   ·rename_i hc
    simp only [si] at h
    exact⟨p,cap,rfl,h.symm,hc,(fun _=>rfl),(fun e=>by cases e)⟩
   ·cases h
  | false =>
   simp only at h
   split at h
   ·rename_i hc
    simp only [si] at h
    exact⟨p,p.2-cap,rfl,h.symm,by omega,(fun e=>by cases e),(fun _=>by omega)⟩
   ·cases h
theorem se_val {id o1 o2 sub:Nat}{v:Value}(h:AV.val ν (.se id o1 o2 sub)=some v):∃ p off c,ν id=some p∧v=.slice (some ⟨p.1,off,none⟩) 0 c:=by
 simp only [AV.val] at h
 cases hp:ν id with
 | none=>rw [hp] at h;cases h
 | some p =>
  rw [hp] at h
  simp only at h
  split at h
  ·simp only [si] at h;exact⟨p,_,_,rfl,h.symm⟩
  ·cases h
theorem ifc_val {ν:Nu}{t:TypeId}{a:AV}{v:Value}(h:(AV.ifc t a).val ν=some v):∃ u,a.val ν=some u∧v=.iface t u:=by
 simp only [AV.val] at h
 split at h
 ·rename_i u hu
  simp only [si] at h
  exact⟨u,hu,h.symm⟩
 ·cases h
theorem yl_val {ν:Nu}{id:Nat}{v:Value}(h:(AV.yl id).val ν=some v):∃ p,ν id=some p∧v=.func (.yield p.1) #[] #[]:=by
 simp only [AV.val] at h
 split at h
 ·rename_i p hp
  simp only [si] at h
  exact⟨p,hp,h.symm⟩
 ·cases h
theorem mp_val {id:Nat}{v:Value}(h:AV.val ν (.mp id)=some v):∃ p,ν id=some p∧v=.map (some p.1):=by
 simp only [AV.val] at h
 cases hp:ν id with
 | none=>rw [hp] at h;cases h
 | some p=>rw [hp] at h;simp only [si] at h;exact⟨p,rfl,h.symm⟩
theorem agg_val {cs:List AV}{v:Value}(h:AV.val ν (.agg cs)=some v):∃ vs,vals ν cs=some vs∧v=.agg vs.toArray:=by
 simp only [AV.val] at h
 cases hp:vals ν cs with
 | none=>rw [hp] at h;cases h
 | some p=>rw [hp] at h;simp only [si] at h;exact⟨p,rfl,h.symm⟩
theorem tup_val {cs:List AV}{v:Value}(h:AV.val ν (.tup cs)=some v):∃ vs,vals ν cs=some vs∧v=.tuple vs.toArray:=by
 simp only [AV.val] at h
 cases hp:vals ν cs with
 | none=>rw [hp] at h;cases h
 | some p=>rw [hp] at h;simp only [si] at h;exact⟨p,rfl,h.symm⟩
theorem fn_val {f:FuncId}{x y:List AV}{v:Value}(h:AV.val ν (.fn f x y)=some v):∃ vs us,vals ν x=some vs∧vals ν y=some us∧v=.func (.func f) vs.toArray us.toArray:=by
 simp only [AV.val] at h
 cases hx:vals ν x with
 | none=>rw [hx] at h;cases h
 | some p =>
  cases hy:vals ν y with
  | none=>rw [hx,hy] at h;cases h
  | some q=>rw [hx,hy] at h;simp only [si] at h;exact⟨p,q,rfl,rfl,h.symm⟩
theorem intOf_val {x:AV}{n:Nat}{v:Value}(h:intOf? x=some n) (hv:x.val ν=some v):∃ k,v=.int k (n:Int):=by
 unfold intOf? at h
 split at h
 ·rename_i k n'
  simp only [si] at h
  subst h
  simp only [AV.val,si] at hv
  exact⟨k,hv.symm⟩
 ·cases h
theorem isNil_spec {x:AV}{b:Bool}{v:Value}(h:isNilA x=some b) (hv:x.val ν=some v) :
 (b=true∧(v=.pointer none∨(∃ l c,v=.slice none l c)∨v=.map none∨v=.nilFunc)) ∨
 (b=false∧((∃ ad,v=.pointer (some ad))∨(∃ ad l c,v=.slice (some ad) l c)∨(∃ r,v=.map (some r))∨∃ f x y,v=.func f x y)):=by
 unfold isNilA at h
 split at h
 ·obtain⟨p,_,rfl⟩:=ptr_val hv;cases h;exact .inr ⟨rfl,.inl ⟨_,rfl⟩⟩
 ·obtain⟨p,c,_,rfl,_⟩:=sl_val hv;cases h;exact .inr ⟨rfl,.inr (.inl ⟨_,_,_,rfl⟩)⟩
 ·obtain⟨p,c,_,_,rfl⟩:=se_val hv;cases h;exact .inr ⟨rfl,.inr (.inl ⟨_,_,_,rfl⟩)⟩
 ·obtain⟨p,_,rfl⟩:=mp_val hv;cases h;exact .inr ⟨rfl,.inr (.inr (.inl ⟨_,rfl⟩))⟩
 ·obtain⟨_,_,_,_,rfl⟩:=fn_val hv;cases h;exact .inr ⟨rfl,.inr (.inr (.inr ⟨_,_,_,rfl⟩))⟩
 ·simp only [AV.val,si] at hv;subst hv;cases h;exact .inl ⟨rfl,.inl rfl⟩
 ·simp only [AV.val,si] at hv;subst hv;cases h;exact .inl ⟨rfl,.inr (.inl ⟨_,_,rfl⟩)⟩
 ·simp only [AV.val,si] at hv;subst hv;cases h;exact .inl ⟨rfl,.inr (.inr (.inl rfl))⟩
 ·simp only [AV.val,si] at hv;subst hv;cases h;exact .inl ⟨rfl,.inr (.inr (.inr rfl))⟩
 ·simp only [AV.val,si] at hv;subst hv;cases h;exact .inr ⟨rfl,.inr (.inr (.inr ⟨_,_,_,rfl⟩))⟩
 ·simp only [AV.val,si] at hv;subst hv;cases h;exact .inr ⟨rfl,.inl ⟨_,rfl⟩⟩
 ·cases h
theorem eqlA_nil {x y:AV}{b:Bool}(h:eqlA x y=some b):(isNilA x=some true∧isNilA y=some b)∨(isNilA y=some true∧isNilA x=some b)∨∃ id i j,x=.ptr id i∧y=.ptr id j∧b=Nat.beq i j:=by
 unfold eqlA at h
 split at h
 ·rename_i b' h1 h2
  simp only [si] at h;subst h
  exact .inl ⟨h1,h2⟩
 ·rename_i b' h0 h1 h2
  simp only [si] at h;subst h
  exact .inr (.inl ⟨h2,h1⟩)
 ·rename_i h1 h2
  split at h
  ·rename_i a i b' j
   cases hb:Nat.beq a b' with
   | false=>rw [hb] at h;cases h
   | true =>
    rw [hb] at h
    obtain rfl:=Nat.eq_of_beq_eq_true hb
    simp only [cond_true,si] at h
    exact .inr (.inr ⟨a,i,j,rfl,rfl,h.symm⟩)
  ·cases h
 ·cases h
theorem eql_of (d:Nat){x y:AV}{b:Bool}{u v:Value}{t:TypeId}(h:eqlA x y=some b) (hx:x.val ν=some u) (hy:y.val ν=some v) (ht:(∃ e ti,P.underlying t=some (.pointer e)∧P.info? e=some ti∧ti.size≠0∧(∃ a,u=.pointer a)∧∃ a,v=.pointer a) ∨
 (∃ e,P.underlying t=some (.slice e)∧(∃ a l c,u=.slice a l c)∧∃ a l c,v=.slice a l c)∨(∃ k e,P.underlying t=some (.map k e)∧(∃ a,u=.map a)∧∃ a,v=.map a) ∨
 (∃ q r s,P.underlying t=some (.func q r s)∧(u=.nilFunc∨∃ f x y,u=.func f x y)∧(v=.nilFunc∨∃ f x y,v=.func f x y))) (w:World) :
 (Op.equalIn (d+1) t u v).run P w=.ok b w:=by
 rcases eqlA_nil h with⟨h1,h2⟩|⟨h1,h2⟩|⟨id,i,j,rfl,rfl,rfl⟩
 ·have k1:=isNil_spec h1 hx
  have k2:=isNil_spec h2 hy
  rcases ht with⟨e,ti,hu,hi,hz,⟨p,rfl⟩,q,rfl⟩|⟨e,hu,⟨p,l,c,rfl⟩,q,l',c',rfl⟩|⟨k,e,hu,⟨p,rfl⟩,q,rfl⟩|⟨q,r,s,hu,hp,hq⟩
  ·simp only [Bool.true_eq_false,false_and,or_false,true_and,Value.pointer.injEq,reduceCtorEq,exists_false] at k1
   subst k1
   simp only [Op.equalIn,Sem.run_bind,run_underlying hu,Result.andThen_ok,Sem.run_pure]
   congr 1
   cases q<;>simp at k2 ⊢ <;> simp [k2]
  ·simp only [Bool.true_eq_false,false_and,or_false,true_and,Value.slice.injEq,reduceCtorEq,exists_false,false_or] at k1
   obtain⟨_,_,rfl,rfl,rfl⟩:=k1
   simp only [Op.equalIn,Sem.run_bind,run_underlying hu,Result.andThen_ok,Sem.run_pure]
   congr 1
   cases q<;>simp at k2 ⊢ <;> simp [k2]
  ·simp only [Bool.true_eq_false,false_and,or_false,true_and,Value.map.injEq,reduceCtorEq,exists_false,false_or] at k1
   subst k1
   simp only [Op.equalIn,Sem.run_bind,run_underlying hu,Result.andThen_ok,Sem.run_pure]
   congr 1
   cases q<;>simp at k2 ⊢ <;> simp [k2]
  ·rcases hp with rfl|⟨f,x',y',rfl⟩
   ·rcases hq with rfl|⟨f,x',y',rfl⟩
    ·simp at k2;subst k2
     simp only [Op.equalIn,Sem.run_bind,run_underlying hu,Result.andThen_ok,Sem.run_pure]
    ·simp at k2;subst k2
     simp only [Op.equalIn,Sem.run_bind,run_underlying hu,Result.andThen_ok,Sem.run_pure]
   ·simp at k1
 ·have k1:=isNil_spec h1 hy
  have k2:=isNil_spec h2 hx
  rcases ht with⟨e,ti,hu,hi,hz,⟨p,rfl⟩,q,rfl⟩|⟨e,hu,⟨p,l,c,rfl⟩,q,l',c',rfl⟩|⟨k,e,hu,⟨p,rfl⟩,q,rfl⟩|⟨q,r,s,hu,hp,hq⟩
  ·simp only [Bool.true_eq_false,false_and,or_false,true_and,Value.pointer.injEq,reduceCtorEq,exists_false] at k1
   subst k1
   cases p<;>simp at k2<;>subst k2<;>simp only [Op.equalIn,Sem.run_bind,run_underlying hu,Result.andThen_ok,Sem.run_pure]<;>rfl
  ·simp only [Bool.true_eq_false,false_and,or_false,true_and,Value.slice.injEq,reduceCtorEq,exists_false,false_or] at k1
   obtain⟨_,_,rfl,rfl,rfl⟩:=k1
   cases p<;>simp at k2<;>subst k2<;>simp only [Op.equalIn,Sem.run_bind,run_underlying hu,Result.andThen_ok,Sem.run_pure]<;>rfl
  ·simp only [Bool.true_eq_false,false_and,or_false,true_and,Value.map.injEq,reduceCtorEq,exists_false,false_or] at k1
   subst k1
   cases p<;>simp at k2<;>subst k2<;>simp only [Op.equalIn,Sem.run_bind,run_underlying hu,Result.andThen_ok,Sem.run_pure]<;>rfl
  ·rcases hq with rfl|⟨f,x',y',rfl⟩
   ·rcases hp with rfl|⟨f,x',y',rfl⟩
    ·simp at k2;subst k2
     simp only [Op.equalIn,Sem.run_bind,run_underlying hu,Result.andThen_ok,Sem.run_pure]
    ·simp at k2;subst k2
     simp only [Op.equalIn,Sem.run_bind,run_underlying hu,Result.andThen_ok,Sem.run_pure]
   ·simp at k1
 ·obtain⟨p,hp,rfl⟩:=ptr_val hx
  obtain⟨p',hp',rfl⟩:=ptr_val hy
  rw [hp] at hp'
  cases hp'
  rcases ht with⟨e,ti,hu,hi,hz,_,_⟩|⟨e,hu,⟨_,_,_,h⟩,_⟩|⟨k,e,hu,⟨_,h⟩,_⟩|⟨q,r,s,hu,h|⟨_,_,_,h⟩,_⟩
  ·simp only [Op.equalIn,Sem.run_bind,run_underlying hu,Result.andThen_ok,sizeOf,typeInfo,run_program,hi,Sem.run_pure,ne_eq,hz,not_false_eq_true,if_true,sameAddr]
   congr 1
   by_cases hij:i=j
   ·subst hij;simp [beq_ble]
   ·simp [beq_ble,hij]
  ·cases h
  ·cases h
  ·cases h
  ·cases h
theorem shape_ptr {x:AV}{v:Value}(h:shapeA x=1) (hv:x.val ν=some v):∃ a,v=.pointer a:=by
 unfold shapeA at h
 split at h
 ·obtain⟨p,_,rfl⟩:=ptr_val hv;exact⟨_,rfl⟩
 ·cases h
 ·cases h
 ·cases h
 ·cases h
 ·simp only [AV.val,si] at hv
  subst hv
  split at h<;>first|exact⟨_,rfl⟩|cases h
 ·cases h
theorem shape_sl {x:AV}{v:Value}(h:shapeA x=2) (hv:x.val ν=some v):∃ a l c,v=.slice a l c:=by
 unfold shapeA at h
 split at h
 ·cases h
 ·obtain⟨p,c,_,rfl,_⟩:=sl_val hv;exact⟨_,_,_,rfl⟩
 ·obtain⟨p,c,_,_,rfl⟩:=se_val hv;exact⟨_,_,_,rfl⟩
 ·cases h
 ·cases h
 ·simp only [AV.val,si] at hv
  subst hv
  split at h<;>first|exact⟨_,_,_,rfl⟩|cases h
 ·cases h
theorem shape_mp {x:AV}{v:Value}(h:shapeA x=3) (hv:x.val ν=some v):∃ a,v=.map a:=by
 unfold shapeA at h
 split at h
 ·cases h
 ·cases h
 ·cases h
 ·obtain⟨p,_,rfl⟩:=mp_val hv;exact⟨_,rfl⟩
 ·cases h
 ·simp only [AV.val,si] at hv
  subst hv
  split at h<;>first|exact⟨_,rfl⟩|cases h
 ·cases h
theorem shape_fn {x:AV}{v:Value}(h:shapeA x=4) (hv:x.val ν=some v):v=.nilFunc∨∃ f a b,v=.func f a b:=by
 unfold shapeA at h
 split at h
 ·cases h
 ·cases h
 ·cases h
 ·cases h
 ·obtain⟨_,_,_,_,rfl⟩:=fn_val hv;exact .inr ⟨_,_,_,rfl⟩
 ·simp only [AV.val,si] at hv
  subst hv
  split at h<;>first|exact .inl rfl|exact .inr ⟨_,_,_,rfl⟩|cases h
 ·cases h
theorem shapeA_le (x:AV):shapeA x≤4:=by
 unfold shapeA
 split<;>(try split)<;>omega
theorem nilEq_sound {op:BinOp}{t:TypeId}{x y av:AV}{u v:Value}(h:nilEq P op t x y=some av) (hx:x.val ν=some u) (hy:y.val ν=some v) (x' y':Operand) (w:World) :
 ∃ r,av.val ν=some r∧(do eqGuard op t x' y' u v;binOp op t u v:Sem Value).run P w=.ok r w:=by
 unfold nilEq at h
 cases hb:(Nat.beq (shapeA x) (shapeT P t) && Nat.beq (shapeA y) (shapeT P t)) with
 | false=>rw [hb] at h;cases h
 | true =>
  rw [hb] at h
  simp only [cond_true] at h
  simp only [Bool.and_eq_true] at hb
  have e1:=Nat.eq_of_beq_eq_true hb.1
  have e2:=(Nat.eq_of_beq_eq_true hb.2).trans e1.symm
  have hle:=shapeA_le x
  have guard:∀ op,(eqGuard op t x' y' u v).run P w=.ok () w∧(∀ b,(Op.equal t u v).run P w=.ok b w→(binOp .eql t u v).run P w=.ok (.bool b) w∧(binOp .neq t u v).run P w=.ok (.bool (!b)) w)∧∀ b,eqlA x y=some b→(Op.equal t u v).run P w=.ok b w:=by
   intro op
   unfold shapeT at e1
   split at e1
   ·rename_i e hu
    split at e1
    ·rename_i ie hi
     cases hz:Nat.beq ie.size 0 with
     | true=>rw [hz] at e1;simp only [cond_true] at e1;omega
     | false =>
      rw [hz] at e1
      simp only [cond_false] at e1
      obtain⟨p,rfl⟩:=shape_ptr e1 hx
      obtain⟨q,rfl⟩:=shape_ptr (e2.trans e1) hy
      refine⟨by unfold eqGuard;split<;>simp,fun b hb=>?_,fun b hb=>eql_of 9999 hb hx hy (.inl ⟨e,ie,hu,hi,Nat.ne_of_beq_eq_false hz,⟨p,rfl⟩,q,rfl⟩) w⟩
      constructor<;>simp [binOp,hb,Sem.run_bind]
    ·omega
   ·rename_i e hu
    obtain⟨p,l,c,rfl⟩:=shape_sl e1 hx
    obtain⟨q,l',c',rfl⟩:=shape_sl (e2.trans e1) hy
    refine⟨by unfold eqGuard;split<;>simp,fun b hb=>?_,fun b hb=>eql_of 9999 hb hx hy (.inr (.inl ⟨e,hu,⟨_,_,_,rfl⟩,_,_,_,rfl⟩)) w⟩
    constructor<;>simp [binOp,hb,Sem.run_bind]
   ·rename_i k e hu
    obtain⟨p,rfl⟩:=shape_mp e1 hx
    obtain⟨q,rfl⟩:=shape_mp (e2.trans e1) hy
    refine⟨by unfold eqGuard;split<;>simp,fun b hb=>?_,fun b hb=>eql_of 9999 hb hx hy (.inr (.inr (.inl ⟨k,e,hu,⟨_,rfl⟩,_,rfl⟩))) w⟩
    constructor<;>simp [binOp,hb,Sem.run_bind]
   ·rename_i q r s hu
    have h1:=shape_fn e1 hx
    have h2:=shape_fn (e2.trans e1) hy
    refine⟨?_,fun b hb=>?_,fun b hb=>eql_of 9999 hb hx hy (.inr (.inr (.inr ⟨q,r,s,hu,h1,h2⟩))) w⟩
    ·rcases h1 with rfl|⟨_,_,_,rfl⟩<;>rcases h2 with rfl|⟨_,_,_,rfl⟩<;>(unfold eqGuard;split<;>simp)
    ·rcases h1 with rfl|⟨_,_,_,rfl⟩<;>rcases h2 with rfl|⟨_,_,_,rfl⟩<;>(constructor<;>simp [binOp,hb,Sem.run_bind])
   ·omega
  split at h
  ·rename_i b hq
   simp only [si] at h
   subst h
   obtain⟨g1,g2,g3⟩:=guard .eql
   exact⟨_,rfl,by rw [Sem.run_bind,g1];exact(g2 _ (g3 _ hq)).1⟩
  ·rename_i b hq
   simp only [si] at h
   subst h
   obtain⟨g1,g2,g3⟩:=guard .neq
   exact⟨_,rfl,by rw [Sem.run_bind,g1];exact(g2 _ (g3 _ hq)).2⟩
  ·cases h
theorem binOpA_sound (hf:FitsA δ ν N S a){o:Oper}{op:BinOp}{t t':TypeId}{x y:Operand}(ho:o.op=.binOp op t x y t'){av:AV}(h:binOpA P S o op t (opnd S x) (opnd S y)=some av) (w:World) :
 ∃ v,av.val ν=some v∧(execOp a.eval o).run P w=.ok (.value v) w:=by
 unfold binOpA at h
 split at h
 ·rename_i b c hb hc
  obtain⟨u,hu,ex⟩:=hf.op hb
  obtain⟨u',hu',ey⟩:=hf.op hc
  split at h
  ·rename_i r hr
   simp only [si] at h
   subst h
   obtain⟨k,k',n,n',v,rfl,rfl,h1,h2⟩:=binA_sound hu hu' t hr
   exact⟨v,h1,run_bin_int ho ex ey h2 w⟩
  ·refine orGen_sound hf h w fun h=>?_
   obtain⟨r,h1,h2⟩:=nilEq_sound h hu hu' x y w
   refine⟨r,h1,?_⟩
   simp only [execOp,ho,ex,ey,Sem.run_bind] at h2 ⊢
   rw [h2]
   rfl
 ·cases h
theorem nilCheckA_sound (hf:FitsA δ ν N S a){o:Oper}{x:Operand}(ho:o.op=.nilCheck x){av:AV}(h:nilCheckA (opnd S x)=some av) (w:World) :
 ∃ v,av.val ν=some v∧(execOp a.eval o).run P w=.ok (.value v) w:=by
 unfold nilCheckA at h
 split at h
 ·rename_i id off hx
  obtain⟨u,hu,ex⟩:=hf.op hx
  simp only [si] at h;subst h
  obtain⟨p,_,rfl⟩:=ptr_val hu
  exact⟨_,hu,by simp [execOp,ho,ex]⟩
 ·rename_i f y z hx
  obtain⟨u,hu,ex⟩:=hf.op hx
  simp only [si] at h;subst h
  obtain⟨_,_,_,_,rfl⟩:=fn_val hu
  exact⟨_,hu,by simp [execOp,ho,ex]⟩
 ·rename_i id hx
  obtain⟨u,hu,ex⟩:=hf.op hx
  simp only [si] at h;subst h
  have hu':=hu
  simp only [AV.val] at hu'
  split at hu'
  ·simp only [si] at hu'
   subst hu'
   exact⟨_,hu,by simp [execOp,ho,ex]⟩
  ·cases hu'
 ·rename_i ad hx
  obtain⟨u,hu,ex⟩:=hf.op hx
  simp only [si] at h;subst h
  simp only [AV.val,si] at hu;subst hu
  exact⟨_,rfl,by simp [execOp,ho,ex]⟩
 ·rename_i f y z hx
  obtain⟨u,hu,ex⟩:=hf.op hx
  simp only [si] at h;subst h
  simp only [AV.val,si] at hu;subst hu
  exact⟨_,rfl,by simp [execOp,ho,ex]⟩
 ·cases h
end
section
variable {δ : List Deferred} {P : Program} {G : Nat → Option (List Value)} {ν : Nu} {N : Nat} {S : AE} {a : Act} {m : AM} {w : World}
theorem ptr_mk {id off:Nat}{p:Nat×Nat}(h:ν id=some p):AV.val ν (.ptr id off)=some (.pointer (some ⟨p.1,off,none⟩)):=by simp [AV.val,h]
theorem slK_mk {id off len cap:Nat}{p:Nat×Nat}(h:ν id=some p) (hc:len≤cap):AV.val ν (.sl id off len cap true)=some (.slice (some ⟨p.1,off,none⟩) len cap):=by simp [AV.val,h,hc]
theorem slU_mk {id off len cap c:Nat}{p:Nat×Nat}(h:ν id=some p) (hc:len≤c) (e:c+cap=p.2):AV.val ν (.sl id off len cap false)=some (.slice (some ⟨p.1,off,none⟩) len c):=by
 have:len+cap≤p.2:=by omega
 have h2:p.2-cap=c:=by omega
 simp [AV.val,h,this,h2]
theorem ble_true {x y:Nat}(h:Nat.ble x y=true):x≤y:=Nat.le_of_ble_eq_true h
theorem indexAddrA_sound {o:Oper}{t:TypeId}{x i:Operand}(ho:o.op=.indexAddr t x i){ρ:Operand→Value}{xa ia av:AV}(hx:xa.val ν=some (ρ x)) (hi:ia.val ν=some (ρ i)) (h:indexAddrA P t xa ia=some av) (w:World) :
 ∃ v,av.val ν=some v∧(execOp ρ o).run P w=.ok (.value v) w:=by
 unfold indexAddrA at h
 split at h
 ·rename_i n hn
  obtain⟨k,hk⟩:=intOf_val hn hi
  split at h
  ·rename_i e id off len cap kn hu
   split at h
   ·rename_i ie hie
    cases hb:Nat.ble (n+1) len with
    | false=>rw [hb] at h;cases h
    | true =>
     rw [hb] at h
     have hlt:=ble_true hb
     simp only [cond_true,si] at h
     subst h
     obtain⟨p,c,hp,hv,_⟩:=sl_val hx
     refine⟨_,ptr_mk hp,?_⟩
     have h1:(0:Int)≤n∧(n:Int)<len:=by omega
     simp [execOp,ho,Instr.indexAt,hv,hk,asIntOf,run_underlying hu,sizeOf,typeInfo,hie,h1,go_sem,add_mk]
     intro hh;omega
   ·cases h
  ·rename_i len e id off hu
   split at h
   ·rename_i ie hie
    cases hb:Nat.ble (n+1) len with
    | false=>rw [hb] at h;cases h
    | true =>
     rw [hb] at h
     have hlt:=ble_true hb
     simp only [cond_true,si] at h
     subst h
     obtain⟨p,hp,hv⟩:=ptr_val hx
     refine⟨_,ptr_mk hp,?_⟩
     have h1:(0:Int)≤n∧(n:Int)<len:=by omega
     simp [execOp,ho,Instr.indexAt,hv,hk,asIntOf,Instr.sureAddr,run_underlying hu,sizeOf,typeInfo,hie,h1,go_sem,add_mk]
     intro hh;omega
   ·cases h
  ·cases h
 ·cases h
theorem indexA_sound {o:Oper}{t:TypeId}{x i:Operand}(ho:o.op=.index t x i){ρ:Operand→Value}{xa ia av:AV}(hx:xa.val ν=some (ρ x)) (hi:ia.val ν=some (ρ i)) (h:indexA P t xa ia=some av) (w:World) :
 ∃ v,av.val ν=some v∧(execOp ρ o).run P w=.ok (.value v) w:=by
 unfold indexA at h
 split at h
 ·rename_i n cs hn
  obtain⟨k,hk⟩:=intOf_val hn hi
  obtain⟨vs,hvs,hv⟩:=agg_val hx
  split at h
  ·rename_i len e hu
   split at h
   ·rename_i ie hie
    cases hb:Nat.ble (n+1) len with
    | false=>rw [hb] at h;cases h
    | true =>
     rw [hb] at h
     have hlt:=ble_true hb
     simp only [cond_true] at h
     obtain⟨v,h1,h2⟩:=partA_part h hvs w
     refine⟨v,h1,?_⟩
     have h3:(0:Int)≤n∧(n:Int)<len:=by omega
     simp only [execOp,ho,Instr.index,hv,hk,asIntOf,Sem.run_bind,Sem.run_pure,Result.andThen_ok,run_underlying hu,h3,and_self,if_true,sizeOf,typeInfo,run_program,hie,Int.toNat_natCast,h2]
   ·cases h
  ·cases h
 ·cases h
theorem fieldAddrA_sound {o:Oper}{t:TypeId}{x:Operand}{f:Nat}(ho:o.op=.fieldAddr t x f){ρ:Operand→Value}{xa av:AV}(hx:xa.val ν=some (ρ x)) (h:fieldAddrA P t xa f=some av) (w:World) :
 ∃ v,av.val ν=some v∧(execOp ρ o).run P w=.ok (.value v) w:=by
 unfold fieldAddrA at h
 split at h
 ·rename_i id off fields hu
  obtain⟨p,hp,hv⟩:=ptr_val hx
  split at h
  ·rename_i fd hfd
   split at h
   ·rename_i i hi
    cases hb:Nat.beq i.size 0 with
    | true=>rw [hb] at h;cases h
    | false =>
     rw [hb] at h
     simp only [cond_false,si] at h
     subst h
     have hne:=Nat.ne_of_beq_eq_false hb
     refine⟨_,ptr_mk hp,?_⟩
     have hfd':fields[f]?=some fd:=by simpa using hfd
     simp only [execOp,ho,Instr.fieldAt,hv,Sem.run_bind,run_underlying hu,Result.andThen_ok,hfd',Instr.sureAddr,fieldPlace,sizeOf,typeInfo,run_program,hi,Sem.run_pure,hne,if_false,add_mk]
   ·cases h
  ·cases h
 ·cases h
theorem fieldA_sound {o:Oper}{t:TypeId}{x:Operand}{f:Nat}(ho:o.op=.field t x f){ρ:Operand→Value}{xa av:AV}(hx:xa.val ν=some (ρ x)) (h:fieldA P t xa f=some av) (w:World) :
 ∃ v,av.val ν=some v∧(execOp ρ o).run P w=.ok (.value v) w:=by
 unfold fieldA at h
 split at h
 ·rename_i cs fields hu
  obtain⟨vs,hvs,hv⟩:=agg_val hx
  split at h
  ·rename_i fd hfd
   obtain⟨v,h1,h2⟩:=partA_part h hvs w
   refine⟨v,h1,?_⟩
   have hfd':fields[f]?=some fd:=by simpa using hfd
   simp only [execOp,ho,Instr.field,hv,Sem.run_bind,run_underlying hu,Result.andThen_ok,hfd',asAgg,Sem.run_pure,h2]
  ·cases h
 ·cases h
theorem arrayAtA_sound {o:Oper}{t:TypeId}{x:Operand}(ho:o.op=.sliceToArrayPointer t x){ρ:Operand→Value}{xa av:AV}(hx:xa.val ν=some (ρ x)) (h:arrayAtA P t xa=some av) (w:World) :
 ∃ v,av.val ν=some v∧(execOp ρ o).run P w=.ok (.value v) w:=by
 unfold arrayAtA at h
 split at h
 ·rename_i n e id off len cap kn hu
  obtain⟨p,c,hp,hv,_⟩:=sl_val hx
  cases hb:Nat.ble n len with
  | false=>rw [hb] at h;cases h
  | true =>
   rw [hb] at h
   simp only [cond_true,si] at h
   subst h
   have h1:=ble_true hb
   have h2:¬ len<n:=by omega
   refine⟨_,ptr_mk hp,?_⟩
   simp only [execOp,ho,Instr.arrayAt,hv,Sem.run_bind,run_underlying hu,Result.andThen_ok,h2,if_false,Sem.run_pure]
 ·cases h
theorem extractA_sound (hf:FitsA δ ν N S a){o:Oper}{x:Operand}{i:Nat}(ho:o.op=.extract x i){av:AV}(h:extractA P S o (opnd S x) i=some av) (w:World) :
 ∃ v,av.val ν=some v∧(execOp a.eval o).run P w=.ok (.value v) w:=by
 unfold extractA at h
 split at h
 ·rename_i cs hx
  obtain⟨u,hu,ex⟩:=hf.op hx
  obtain⟨vs,hvs,rfl⟩:=tup_val hu
  obtain⟨v,h1,h2⟩:=vals_get hvs h
  refine⟨v,h1,?_⟩
  have h3:vs.toArray[i]?=some v:=by simpa using h2
  simp only [execOp,ho,Instr.extract,ex,h3,Sem.run_bind,Sem.run_pure,Result.andThen_ok]
 ·exact genOp_sound hf h w
 ·cases h
theorem boundA_spec (hf:FitsA δ ν N S a){d l:Nat}{x:Option Operand}(h:boundA S d x=some l):(x=none∧l=d)∨∃ y k,x=some y∧a.eval y=.int k (l:Int):=by
 unfold boundA at h
 split at h
 ·simp only [si] at h;exact .inl ⟨rfl,h.symm⟩
 ·rename_i y
  split at h
  ·rename_i b hb
   obtain⟨v,h1,h2⟩:=hf.op hb
   obtain⟨k,rfl⟩:=intOf_val h h1
   exact .inr ⟨y,k,rfl,h2⟩
  ·cases h
theorem run_bounds {sl:Bool}{ρ:Operand→Value}{lo hi:Option Operand}{l h len cap:Nat}(h1:(lo=none∧l=0)∨∃ y k,lo=some y∧ρ y=.int k (l:Int)) (h2:(hi=none∧h=len)∨∃ y k,hi=some y∧ρ y=.int k (h:Int))
 (h3:l≤h) (h4:h≤cap) (w:World):(Instr.sliceBounds sl len cap (lo.map ρ) (hi.map ρ) none).run P w=.ok (l,h,cap) w:=by
 refine run_sliceBounds sl ?_ ?_ ⟨?_,?_,h3,h4⟩
 ·rcases h1 with⟨h,_⟩|h
  ·exact .inl h
  ·exact .inr h
 ·rcases h2 with⟨h,_⟩|h
  ·exact .inl h
  ·exact .inr h
 ·intro e
  rcases h1 with⟨_,h⟩|⟨y,k,h,_⟩
  ·exact h
  ·rw [e] at h;cases h
 ·intro e
  rcases h2 with⟨_,h⟩|⟨y,k,h,_⟩
  ·exact h
  ·rw [e] at h;cases h
theorem resl_spec {id off len cap size l h:Nat}{kn:Bool}{av:AV}{p:Nat×Nat}{c:Nat}(hr:resl id off len cap kn size l h=some av) (hp:ν id=some p) (hc:len≤c) (k1:kn=true→c=cap) (k2:kn=false→c+cap=p.2) :
 l≤h∧h≤c∧AV.val ν av=some (.slice (some (if c=l then ⟨p.1,off,none⟩ else (Addr.mk p.1 off none).add (l*size))) (h-l) (c-l)):=by
 unfold resl at hr
 cases kn with
 | true =>
  obtain rfl:=k1 rfl
  simp only at hr
  cases hb:(Nat.ble l h && Nat.ble h c) with
  | false=>rw [hb] at hr;cases hr
  | true =>
   rw [hb] at hr
   simp only [Bool.and_eq_true] at hb
   have h1:=ble_true hb.1
   have h2:=ble_true hb.2
   simp only [cond_true,si] at hr
   subst hr
   refine⟨h1,h2,?_⟩
   rw [slK_mk hp (by omega)]
   by_cases e:c=l
   ·have:Nat.beq c l=true:=by rw [beq_ble];simp [e]
    rw [this,if_pos e];rfl
   ·have:Nat.beq c l=false:=by rw [beq_ble];simp [e]
    rw [this,if_neg e,add_mk];rfl
 | false =>
  have k2:=k2 rfl
  simp only at hr
  cases hb:(Nat.ble l h && Nat.ble h len) with
  | false=>rw [hb] at hr;cases hr
  | true =>
   rw [hb] at hr
   simp only [Bool.and_eq_true] at hb
   have h1:=ble_true hb.1
   have h2:=ble_true hb.2
   refine⟨h1,by omega,?_⟩
   simp only [cond_true] at hr
   cases e0:Nat.beq l 0 with
   | true =>
    rw [e0] at hr
    have:=Nat.eq_of_beq_eq_true e0
    subst this
    simp only [cond_true,si] at hr
    subst hr
    rw [slU_mk hp (c:=c) (by omega) k2]
    simp [add_mk]
   | false =>
    have hne:=Nat.ne_of_beq_eq_false e0
    rw [e0] at hr
    simp only [cond_false] at hr
    cases e1:Nat.beq l h with
    | true =>
     rw [e1] at hr
     have:=Nat.eq_of_beq_eq_true e1
     subst this
     simp only [cond_true,si] at hr
     subst hr
     have h5:cap+l≤p.2:=by omega
     have h6:p.2-(cap+l)=c-l:=by omega
     have h7:(p.2=cap+l)↔(c=l):=by omega
     have e5:AV.val ν (.se id off (off+l*size) (cap+l))=some (.slice (some ⟨p.1,if p.2=cap+l then off else off+l*size,none⟩) 0 (p.2-(cap+l))):=by simp only [AV.val,hp,h5,if_true]
     rw [e5,h6,Nat.sub_self]
     by_cases hcl:c=l
     ·rw [if_pos (h7.2 hcl),if_pos hcl]
     ·rw [if_neg (fun h=>hcl (h7.1 h)),if_neg hcl,add_mk]
    | false =>
     rw [e1] at hr
     have:=Nat.ne_of_beq_eq_false e1
     simp only [cond_false,si] at hr
     subst hr
     rw [slU_mk hp (c:=c-l) (by omega) (by omega),if_neg (by omega),add_mk]
theorem sliceA_sound (hf:FitsA δ ν N S a){o:Oper}{t:TypeId}{x:Operand}{lo hi:Option Operand}(ho:o.op=.slice t x lo hi none){xa av:AV}(hx:xa.val ν=some (a.eval x)) (h:sliceA P S t xa lo hi=some av) (w:World) :
 ∃ v,av.val ν=some v∧(execOp a.eval o).run P w=.ok (.value v) w:=by
 unfold sliceA at h
 split at h
 ·rename_i n e id off hu
  split at h
  ·rename_i ie l hh hie hl hhi
   obtain⟨p,hp,hv⟩:=ptr_val hx
   obtain⟨h1,h2,h3⟩:=resl_spec (ν:=ν) (c:=n) h hp (Nat.le_refl _) (fun _=>rfl) (fun e=>by cases e)
   refine⟨_,h3,?_⟩
   have b1:=boundA_spec hf hl
   have b2:=boundA_spec hf hhi
   have hr:=run_bounds (P:=P) (sl:=false) b1 b2 h1 h2 w
   generalize a.eval=ρ at hv hr ⊢
   simp only [execOp,ho,Instr.sliceAt,Sem.run_bind,run_underlying hu,Result.andThen_ok,hv,Instr.sureAddr,Sem.run_pure,Option.map_none,hr,sizeOf,typeInfo,run_program,hie]
  ·cases h
 ·rename_i e id off len cap kn hu
  split at h
  ·rename_i ie l hh hie hl hhi
   obtain⟨p,c,hp,hv,hc,k1,k2⟩:=sl_val hx
   obtain⟨h1,h2,h3⟩:=resl_spec (ν:=ν) (c:=c) h hp hc k1 k2
   refine⟨_,h3,?_⟩
   have b1:=boundA_spec hf hl
   have b2:=boundA_spec hf hhi
   have hr:=run_bounds (P:=P) (sl:=true) (len:=len) b1 b2 h1 h2 w
   generalize a.eval=ρ at hv hr ⊢
   simp only [execOp,ho,Instr.sliceAt,Instr.slice,Sem.run_bind,run_underlying hu,Result.andThen_ok,hv,Sem.run_pure,Option.map_none,hr,sizeOf,typeInfo,run_program,hie]
   congr 3
   split<;>rfl
  ·cases h
 ·rename_i e id o1 o2 sub hu
  split at h
  ·rename_i ie hi2 hl hhi
   simp only [si] at h
   subst h
   have hx2:=hx
   simp only [AV.val] at hx2
   cases hp:ν id with
   | none=>rw [hp] at hx2;cases hx2
   | some p =>
    rw [hp] at hx2
    simp only at hx2
    split at hx2
    ·rename_i hs
     refine⟨_,hx,?_⟩
     have b1:=boundA_spec hf hl
     have b2:=boundA_spec hf hhi
     have hr:=run_bounds (P:=P) (sl:=true) (len:=0) (cap:=p.2-sub) b1 b2 (Nat.le_refl _) (Nat.zero_le _) w
     simp only [si] at hx2
     generalize a.eval=ρ at hx2 hr ⊢
     simp only [execOp,ho,Instr.sliceAt,Instr.slice,Sem.run_bind,run_underlying hu,Result.andThen_ok,← hx2,Sem.run_pure,Option.map_none,hr,sizeOf,typeInfo,run_program,hi2]
     congr 3
     simp [add_mk]
    ·cases hx2
  ·cases h
 ·cases h
end
theorem splice_set {α:Type}:∀ (n:Nat) (v:α) (vs cs:List α),n+(vs.length+1)≤cs.length→splice n (v::vs) cs=splice (n+1) vs (cs.set n v)
 | 0,v,vs,[],h=>by simp at h
 | 0,v,vs,c::cs,h=>rfl
 | n+1,v,vs,[],h=>by simp at h
 | n+1,v,vs,c::cs,h=>by
  simp only [List.set_cons_succ,splice]
  rw [splice_set n v vs cs (by simp at h;omega)]
theorem splice_nil {α:Type}:∀ (n:Nat) (cs:List α),n≤cs.length→splice n [] cs=cs
 | 0,cs,_=>rfl
 | n+1,[],h=>by simp at h
 | n+1,c::cs,h=>by simp [splice,splice_nil n cs (by simpa using h)]
theorem foldl_splice {α:Type}(off:Nat):∀ (vs:List α) (k:Nat) (cells:Array α),off+k+vs.length≤cells.size →
 (vs.zipIdx k).foldl (fun cs x=>cs.setIfInBounds (off+x.2) x.1) cells=(splice (off+k) vs cells.toList).toArray
 | [],k,cells,h=>by
  simp only [List.zipIdx_nil,List.foldl_nil]
  rw [splice_nil _ _ (by simpa using h)]
 | v::vs,k,cells,h=>by
  simp only [List.length_cons] at h
  simp only [List.zipIdx_cons,List.foldl_cons]
  rw [foldl_splice off vs (k+1) _ (by simp;omega),splice_set _ _ _ _ (by simp;omega)]
  simp [Nat.add_assoc]
theorem sxsplice {cells:Array Value}:∀ (vs:List Value) (off:Nat),off+vs.length≤cells.size→Go.Sx.splice cells off vs=(splice off vs cells.toList).toArray:=by
 intro vs
 induction vs generalizing cells with
 | nil=>intro off h;rw [splice_nil _ _ (by simpa using h)];simp [Go.Sx.splice]
 | cons v vs ih =>
  intro off h
  simp only [List.length_cons] at h
  rw [Go.Sx.splice,ih _ (by simp;omega),splice_set _ _ _ _ (by simp;omega)]
  simp
section
variable {δ : List Deferred} {P : Program} {G : Nat → Option (List Value)} {ν : Nu} {N : Nat} {S : AE} {a : Act} {m : AM} {w : World}
def valPs (ν:Nu):List (Nat×AV)→List (Nat×Value)→Prop
 | [],[]=>True
 | (i,x)::l,(j,v)::l'=>i=j∧x.val ν=some v∧valPs ν l l'
 | _,_=>False
theorem fillA_spec (place:Nat→Option (Nat×Nat)):∀ {ps:List (Nat×AV)}{qs:List (Nat×Value)}{cells cs:List AV}{us:List Value},fillA place cells ps=some cs→vals ν cells=some us→valPs ν ps qs →
 ∃ ws,vals ν cs=some ws∧Instr.fill place us.toArray qs=some ws.toArray
 | [],[],cells,cs,us,h,hu,_=>by
  simp only [fillA,si] at h
  subst h
  exact⟨us,hu,rfl⟩
 | (i,x)::ps,(j,v)::qs,cells,cs,us,h,hu,hp=>by
  obtain⟨rfl,hx,hp⟩:=hp
  simp only [fillA] at h
  split at h
  ·cases h
  ·rename_i off size hpl
   cases hb:(Nat.beq (cellsOf x).length size && Nat.ble (off+(cellsOf x).length) cells.length) with
   | false=>rw [hb] at h;cases h
   | true =>
    rw [hb] at h
    simp only [Bool.and_eq_true] at hb
    simp only [cond_true] at h
    have h1:=Nat.eq_of_beq_eq_true hb.1
    have h2:=ble_true hb.2
    have hc:=cellsOf_vals hx
    have l1:=vals_length hc
    have l2:=vals_length hu
    obtain⟨ws,h3,h4⟩:=fillA_spec place h (splice_vals off hc hu) hp
    refine⟨ws,h3,?_⟩
    have e1:v.cells.size=size:=by rw [← Array.length_toList,l1,h1]
    have e2:¬ (off+v.cells.size>us.toArray.size):=by
     simp only [List.size_toArray,l2,e1]
     rw [h1] at h2
     omega
    simp only [Instr.fill,hpl]
    rw [if_neg (by simp only [Bool.or_eq_true,decide_eq_true_eq,not_or];exact⟨by simpa using e1,by simpa using e2⟩)]
    have e3:(v.cells.zipIdx.foldl (fun cs x=>cs.setIfInBounds (off+x.2) x.1) us.toArray)=(splice off v.cells.toList us).toArray:=by
     rw [← Array.foldl_toList,Array.toList_zipIdx]
     have:=foldl_splice off v.cells.toList 0 us.toArray (by simp only [Array.length_toList,List.size_toArray] at e2 ⊢;omega)
     simpa using this
    exact(congrArg (fun z=>Instr.fill place z qs) e3).trans h4
theorem partsA_spec (hf:FitsA δ ν N S a):∀ {l:List (Nat×Operand)}{ps:List (Nat×AV)},partsA S l=some ps→valPs ν ps (l.map fun(i,x)=>(i,a.eval x))
 | [],ps,h=>by simp only [partsA,si] at h;subst h;trivial
 | (i,x)::l,ps,h=>by
  simp only [partsA] at h
  split at h
  ·rename_i b hb
   split at h
   ·rename_i bs hbs
    simp only [si] at h
    subst h
    obtain⟨v,h1,h2⟩:=hf.op hb
    exact⟨rfl,by rw [h2];exact h1,partsA_spec hf hbs⟩
   ·cases h
  ·cases h
theorem places_spec:∀ {fs:List Field}{pl:List (Nat×Nat)},places P fs=some pl→fs.mapM (fun f=>(P.info? f.type).map fun i=>(f.offset,i.size))=some pl
 | [],pl,h=>by simp only [places,si] at h;subst h;rfl
 | f::fs,pl,h=>by
  simp only [places] at h
  split at h
  ·rename_i i hi
   split at h
   ·rename_i ps hps
    simp only [si] at h
    subst h
    simp [List.mapM_cons,hi,places_spec hps]
   ·cases h
  ·cases h
theorem zeroOf_spec {t:TypeId}{z:List AV}(h:zeroOf P t=some z):∃ ti zv,P.info? t=some ti∧ti.zero=some zv∧vals ν z=some zv.cells.toList:=by
 unfold zeroOf at h
 split at h
 ·rename_i i hi
  split at h
  ·rename_i zv hz
   simp only [si] at h
   subst h
   exact⟨i,zv,hi,hz,cellsOf_vals (lift_val ν zv)⟩
  ·cases h
 ·cases h
theorem buildA_sound (hf:FitsA δ ν N S a){o:Oper}{t:TypeId}{parts:Array (Nat×Operand)}(ho:o.op=.build t parts){av:AV}(h:buildA P S t parts.toList=some av) (w:World) :
 ∃ v,av.val ν=some v∧(execOp a.eval o).run P w=.ok (.value v) w:=by
 have key:∀ cells,P.built t (parts.map fun(i,x)=>(i,a.eval x)).toList=some cells→(execOp a.eval o).run P w=.ok (.value (.agg cells)) w:=by
  intro cells hc
  have:=run_build (P:=P) w t (parts.map fun(i,x)=>(i,a.eval x)) cells hc
  generalize a.eval=ρ at this ⊢
  simp only [execOp,ho,Sem.run_bind,this,Result.andThen_ok,Sem.run_pure]
 unfold buildA at h
 split at h
 ·rename_i z ps fields hz hps hu
  obtain⟨ti,zv,h1,h2,h3⟩:=zeroOf_spec (ν:=ν) hz
  have hq:=partsA_spec hf hps
  split at h
  ·rename_i pl hpl
   split at h
   ·rename_i cs hcs
    simp only [si] at h
    subst h
    obtain⟨ws,h4,h5⟩:=fillA_spec _ hcs h3 hq
    refine⟨_,by simp only [AV.val,h4];rfl,key _ ?_⟩
    simp only [Program.built,h1,hu,h2,places_spec hpl,Array.toList_map]
    have:(fun x:Nat=>pl.toArray[x]?)=(fun x:Nat=>pl[x]?):=by funext x;simp
    rw [this]
    simpa using h5
   ·cases h
  ·cases h
 ·rename_i z ps n e hz hps hu
  obtain⟨ti,zv,h1,h2,h3⟩:=zeroOf_spec (ν:=ν) hz
  have hq:=partsA_spec hf hps
  split at h
  ·rename_i ie hie
   split at h
   ·rename_i cs hcs
    simp only [si] at h
    subst h
    obtain⟨ws,h4,h5⟩:=fillA_spec _ hcs h3 hq
    refine⟨_,by simp only [AV.val,h4];rfl,key _ ?_⟩
    simp only [Program.built,h1,hu,h2,hie,Array.toList_map]
    simpa using h5
   ·cases h
  ·cases h
 ·cases h
theorem driveP_sound {α:Type}:∀ (s:Sem α){x:α},driveP P s=some x→∀ w,s.run P w=.ok x w:=by
 intro s
 induction s with
 | pure b=>intro x h w;simp only [driveP,si] at h;subst h;rfl
 | program k ih=>intro x h w;exact ih P h w
 | mark mk k ih=>intro x h w;exact ih h w
 | _=>intro x h;simp [driveP] at h
theorem driveP_bind {α β:Type}:∀ (s:Sem α) (f:α→Sem β){y:β},driveP P (s.bind f)=some y→∃ x,driveP P s=some x∧driveP P (f x)=some y:=by
 intro s f
 induction s with
 | pure b=>intro y h;exact⟨b,rfl,h⟩
 | program k ih=>intro y h;exact ih P h
 | mark mk k ih=>intro y h;exact ih h
 | _=>intro y h;simp [driveP,Sem.bind] at h
theorem valEs_spec:∀ {es:List (Value×AV×Nat)}{l:List MapEntry},valEs ν es=some l→l.map (·.key)=es.map (·.1)∧l.map (·.born)=es.map (·.2.2)∧∀ (i:Nat) (e:Value×AV×Nat),es[i]?=some e→∃ v,e.2.1.val ν=some v∧l[i]?=some ⟨e.1,v,e.2.2⟩
 | [],l,h=>by simp only [valEs,si] at h;subst h;exact⟨rfl,rfl,fun i e h=>by simp at h⟩
 | e::es,l,h=>by
  simp only [valEs] at h
  split at h
  ·rename_i v vs hv hvs
   simp only [si] at h
   subst h
   obtain⟨h1,h2,h3⟩:=valEs_spec hvs
   refine⟨by simp [h1],by simp [h2],fun i x hx=>?_⟩
   cases i with
   | zero=>simp at hx;subst hx;exact⟨v,hv,rfl⟩
   | succ i=>simpa using h3 i x (by simpa using hx)
  ·cases h
theorem findNow_spec (kind:TypeDesc) (k:Value):∀ (es l:List MapEntry) (i:Nat),l.map (·.key)=es.map (·.key) →
 (Instr.findNow kind k es i=none→Instr.findNow kind k l i=none)∧(Instr.findNow kind k es i=some none→Instr.findNow kind k l i=some none) ∧
 ∀ j v,Instr.findNow kind k es i=some (some (j,v))→∃ e,i≤j∧l[j-i]?=some e∧Instr.findNow kind k l i=some (some (j,e.val))
 | [],[],i,_=>⟨fun h=>h,fun h=>h,fun j v h=>by simp [Instr.findNow] at h⟩
 | e::es,x::l,i,h=>by
  simp only [List.map_cons,List.cons.injEq] at h
  obtain⟨h1,h2⟩:=h
  obtain⟨k1,k2,k3⟩:=findNow_spec kind k es l (i+1) h2
  simp only [Instr.findNow,h1]
  cases Instr.sameNow kind k e.key with
  | none=>exact⟨fun h=>h,fun h=>h,fun j v h=>by simp at h⟩
  | some b =>
   cases b with
   | true =>
    refine⟨fun h=>by simp at h,fun h=>by simp at h,fun j v h=>?_⟩
    simp only [si,Prod.mk.injEq] at h
    obtain⟨rfl,_⟩:=h
    exact⟨x,Nat.le_refl _,by simp,rfl⟩
   | false =>
    refine⟨k1,k2,fun j v h=>?_⟩
    obtain⟨y,h3,h4,h5⟩:=k3 j v h
    refine⟨y,by omega,?_,h5⟩
    rw [show j-i=(j-(i+1))+1 from by omega]
    simpa using h4
 | [],x::l,i,h=>by simp at h
 | e::es,[],i,h=>by simp at h
theorem findAsking_spec (kt:TypeId) (k:Value) (w:World):∀ (es l:List MapEntry) (i:Nat),l.map (·.key)=es.map (·.key)→∀ r,driveP P (Instr.findAsking kt k es i)=some r →
 (r=none∧(Instr.findAsking kt k l i).run P w=.ok none w)∨∃ j v e,r=some (j,v)∧i≤j∧l[j-i]?=some e∧(Instr.findAsking kt k l i).run P w=.ok (some (j,e.val)) w
 | [],[],i,_,r,h=>by simp only [Instr.findAsking,pure,driveP,si] at h;subst h;exact .inl ⟨rfl,rfl⟩
 | e::es,x::l,i,h,r,hr=>by
  simp only [List.map_cons,List.cons.injEq] at h
  obtain⟨h1,h2⟩:=h
  simp only [Instr.findAsking,bind] at hr
  obtain⟨b,hb,hr⟩:=driveP_bind _ _ hr
  have hb':=driveP_sound _ hb w
  simp only [Instr.findAsking,Sem.run_bind,h1,hb',Result.andThen_ok]
  cases b with
  | true =>
   simp only [if_true,pure,driveP,si] at hr
   subst hr
   exact .inr ⟨i,_,x,rfl,Nat.le_refl _,by simp,rfl⟩
  | false =>
   simp only [Bool.false_eq_true,if_false] at hr ⊢
   rcases findAsking_spec kt k w es l (i+1) h2 r hr with h|⟨j,v,y,h3,h4,h5,h6⟩
   ·exact .inl h
   ·refine .inr ⟨j,v,y,h3,by omega,?_,h6⟩
    rw [show j-i=(j-(i+1))+1 from by omega]
    simpa using h5
 | [],x::l,i,h,_,_=>by simp at h
 | e::es,[],i,h,_,_=>by simp at h
theorem keysOf_keys (es:List (Value×AV×Nat)):(keysOf es).map (·.key)=es.map (·.1):=by simp [keysOf]
theorem findA_spec {kt:TypeId}{k:Value}{es:List (Value×AV×Nat)}{l:List MapEntry}{r:Option Nat}(h:findA P kt k es=some r) (hl:valEs ν es=some l) (w:World) :
 (r=none∧(Instr.findKey kt k l).run P w=.ok none w)∨∃ j e,r=some j∧l[j]?=some e∧(Instr.findKey kt k l).run P w=.ok (some (j,e.val)) w:=by
 have hk:l.map (·.key)=(keysOf es).map (·.key):=by rw [keysOf_keys,(valEs_spec hl).1]
 have key:∀ q,driveP P (Instr.findKey kt k (keysOf es))=some q→(q=none∧(Instr.findKey kt k l).run P w=.ok none w)∨∃ j v e,q=some (j,v)∧l[j]?=some e∧(Instr.findKey kt k l).run P w=.ok (some (j,e.val)) w:=by
  intro q hq
  simp only [Instr.findKey,bind] at hq
  obtain⟨d,hd,hq⟩:=driveP_bind _ _ hq
  have hd':=driveP_sound _ hd w
  obtain⟨k1,k2,k3⟩:=findNow_spec d k (keysOf es) l 0 hk
  simp only [Instr.findKey,Sem.run_bind,hd',Result.andThen_ok]
  cases hn:Instr.findNow d k (keysOf es) 0 with
  | none =>
   rw [hn] at hq
   rw [k1 hn]
   rcases findAsking_spec kt k w (keysOf es) l 0 hk q hq with h|⟨j,v,e,h3,_,h5,h6⟩
   ·exact .inl h
   ·exact .inr ⟨j,v,e,h3,by simpa using h5,h6⟩
  | some z =>
   rw [hn] at hq
   simp only [pure,driveP,si] at hq
   subst hq
   cases z with
   | none=>rw [k2 hn];exact .inl ⟨rfl,rfl⟩
   | some jv =>
    obtain⟨j,v⟩:=jv
    obtain⟨e,_,h5,h6⟩:=k3 j v hn
    rw [h6]
    exact .inr ⟨j,v,e,rfl,by simpa using h5,rfl⟩
 unfold findA at h
 split at h
 ·rename_i j v hq
  simp only [si] at h
  subst h
  rcases key _ hq with⟨h,_⟩|⟨j',v',e,h1,h2,h3⟩
  ·cases h
  ·cases h1;exact .inr ⟨_,e,rfl,h2,h3⟩
 ·rename_i hq
  simp only [si] at h
  subst h
  rcases key _ hq with⟨_,h⟩|⟨j',v',e,h1,h2,h3⟩
  ·exact .inl ⟨rfl,h⟩
  ·cases h1
 ·cases h
theorem keyOK_spec {em:Bool}{kt:TypeId}{k:Value}(h:keyOK P em kt k=true) (w:World):(Instr.checkKey em 10000 kt k).run P w=.ok () w:=by
 unfold keyOK at h
 split at h
 ·rename_i u hu;exact driveP_sound _ hu w
 ·cases h
theorem emptyL_eq {α:Type}(l:List α):emptyL l=l.isEmpty:=by cases l<;>rfl
theorem valEs_length {es:List (Value×AV×Nat)}{l:List MapEntry}(h:valEs ν es=some l):l.length=es.length:=by
 have:=congrArg List.length (valEs_spec h).1
 simpa using this
theorem map_at (hm:MemOK ν m w){id clock:Nat}{es:List (Value×AV×Nat)}(h:m.get id=some (.map es clock)):∃ p l,ν id=some p∧valEs ν es=some l∧w.heap[p.1]?=some (.map l.toArray clock):=by
 obtain⟨p,o,h1,h2,l,h3,rfl⟩:=hm.at_ id _ h
 exact⟨p,l,h1,h3,h2⟩
theorem lookupA_sound (hm:MemOK ν m w){o:Oper}{t:TypeId}{x k:Operand}{ok:Bool}(ho:o.op=.lookup t x k ok){ρ:Operand→Value}{xa ka av:AV}(hx:xa.val ν=some (ρ x)) (hk:ka.val ν=some (ρ k)) (h:lookupA P m t xa ka ok=some av) :
 ∃ v,av.val ν=some v∧(execOp ρ o).run P w=.ok (.value v) w:=by
 unfold lookupA at h
 split at h
 ·rename_i id kv kt e hkv hu
  have hkv':=flatOf_val (ν:=ν) hkv
  rw [hk] at hkv'
  obtain⟨p,hp,hv⟩:=mp_val hx
  split at h
  ·rename_i es clock ie hg hie
   obtain⟨p',l,hp',hl,hb⟩:=map_at hm hg
   rw [hp] at hp'
   cases hp'
   cases hko:keyOK P (emptyL es) kt kv with
   | false=>rw [hko] at h;cases h
   | true =>
    rw [hko] at h
    simp only [cond_true] at h
    have hck:=keyOK_spec hko w
    have hem:l.toArray.isEmpty=emptyL es:=by
     rw [emptyL_eq]
     have:=valEs_length hl
     cases l<;>cases es<;>simp at this ⊢
    have hrun:∀ r,(Instr.findKey kt kv l).run P w=.ok r w→(execOp ρ o).run P w=((match r with
     | some (_,v)=>(pure (v,true):Sem (Value×Bool))
     | none=>do pure (← zeroValue e,false)).run P w).andThen fun q w'=>.ok (.value (if ok then .tuple #[q.1,.bool q.2] else q.1)) w':=by
     intro r hr
     have hbo:(getObj p.1).run P w=.ok (.map l.toArray clock) w:=by simp [getObj,Sem.run,hb]
     simp only [si] at hkv'
     simp only [execOp,ho,hv,hkv',Instr.lookup,Sem.run_bind,run_underlying hu,Result.andThen_ok,hbo,Sem.run_pure,hem,hck,hr]
     cases r with
     | none =>
      simp only [Sem.run_bind,zeroValue,typeInfo,run_program,hie,Result.andThen_ok,Sem.run_pure]
      cases hz:ie.zero with
      | none=>rfl
      | some z=>cases ok<;>simp
     | some q=>cases ok<;>simp
    split at h
    ·rename_i i _ hfi
     split at h
     ·rename_i en hen
      rcases findA_spec hfi hl w with⟨h1,_⟩|⟨j,e',h1,h2,h3⟩
      ·cases h1
      ·cases h1
       obtain⟨v,h4,h5⟩:=(valEs_spec hl).2.2 _ _ hen
       rw [h2] at h5
       cases h5
       rw [hrun _ h3]
       simp only [si] at h
       subst h
       cases ok with
       | true=>exact⟨_,by simp only [AV.val,vals,h4];rfl,by simp⟩
       | false=>exact⟨v,h4,by simp⟩
     ·cases h
    ·rename_i z hfi hz
     rcases findA_spec hfi hl w with⟨_,h1⟩|⟨j,e',h1,h2,h3⟩
     ·rw [hrun _ h1]
      simp only [si] at h
      subst h
      cases ok with
      | true=>exact⟨.tuple #[z,.bool false],by simp only [AV.val,vals,lift_val],by simp [Sem.run_bind,zeroValue,typeInfo,hie,hz]⟩
      | false=>exact⟨z,lift_val ν z,by simp [Sem.run_bind,zeroValue,typeInfo,hie,hz]⟩
     ·cases h1
    ·cases h
  ·cases h
 ·cases h
theorem run_bA (hf:FitsA δ ν N S a){o:Oper}{c:Call}{b:Builtin}(ho:o.op=.call c) (hc:c.callee=.builtin b){asx:List AV}(ha:opnds S c.args.toList=some asx) (w:World) :
 ∃ (vs:List Value) (cs:Array Bool),vals ν asx=some vs∧(execOp a.eval o).run P w=(builtin b c.argTypes o.type cs vs.toArray).run P w:=by
 have h1:=hf.ops ha
 have h4:c.args.map a.eval=(c.args.toList.map a.eval).toArray:=by apply Array.ext';simp
 generalize a.eval=ρ at h1 h4 ⊢
 exact⟨_,_,h1,by rw [← h4];simp [execOp,ho,resolve,hc,invoke];rfl⟩
theorem lenOp_sound (hm:MemOK ν m w){ts:Array TypeId}{asx:List AV}{vs:List Value}(hv:vals ν asx=some vs){av:AV}(h:lenOp P m ts.toList asx=some av) (ty:TypeId):∃ v,av.val ν=some v∧(Builtin.len_ ts ty vs.toArray).run P w=.ok v w:=by
 unfold lenOp at h
 split at h
 ·rename_i t x ht
  obtain⟨xv,l0,hx,h0,rfl⟩:=vals_cons.1 hv
  simp only [vals,si] at h0
  subst h0
  have ht0:ts[0]?=some t:=by rw [← Array.getElem?_toList,ht];rfl
  split at h
  ·rename_i e id off len cap kn hu
   obtain⟨p,c,_,rfl,_⟩:=sl_val hx
   cases h
   exact⟨_,rfl,by simp [Builtin.len_,ht0,run_underlying hu,goInt]⟩
  ·rename_i e id o1 o2 sub hu
   obtain⟨p,_,c,_,rfl⟩:=se_val hx
   cases h
   exact⟨_,rfl,by simp [Builtin.len_,ht0,run_underlying hu,goInt]⟩
  ·rename_i k e id hu
   obtain⟨p,hp,rfl⟩:=mp_val hx
   split at h
   ·rename_i es clock hg
    obtain⟨p',l,hp',hl,hb⟩:=map_at hm hg
    rw [hp] at hp'
    cases hp'
    cases h
    have hbo:(getObj p.1).run P w=.ok (.map l.toArray clock) w:=by simp [getObj,Sem.run,hb]
    exact⟨_,rfl,by simp [Builtin.len_,ht0,run_underlying hu,goInt,Sem.run_bind,hbo,valEs_length hl]⟩
   ·cases h
  ·rename_i arr id off hu
   obtain⟨p,_,rfl⟩:=ptr_val hx
   split at h
   ·rename_i n e hu2
    cases h
    exact⟨_,rfl,by simp [Builtin.len_,ht0,run_underlying hu,run_underlying hu2,goInt,Sem.run_bind]⟩
   ·cases h
  ·rename_i n e cs hu
   obtain⟨us,_,rfl⟩:=agg_val hx
   cases h
   exact⟨_,rfl,by simp [Builtin.len_,ht0,run_underlying hu,goInt]⟩
  ·cases h
 ·cases h
theorem lenOpA_sound (hf:FitsA δ ν N S a) (hm:MemOK ν m w){o:Oper}{c:Call}(ho:o.op=.call c) (hc:c.callee=.builtin .len){av:AV}(h:lenOpA P m S o c=some av) :
 ∃ v,av.val ν=some v∧(execOp a.eval o).run P w=.ok (.value v) w:=by
 unfold lenOpA at h
 split at h
 ·rename_i asx ha
  refine orGen_sound hf h w fun h=>?_
  obtain⟨vs,cs,h1,h2⟩:=run_bA hf ho hc ha w
  obtain⟨v,h3,h4⟩:=lenOp_sound hm h1 h o.type
  refine⟨v,h3,?_⟩
  rw [h2]
  simp only [builtin,Sem.run_bind,h4,Result.andThen_ok,Sem.run_pure]
 ·cases h
theorem bornA_spec {n:Nat}:∀ {es:List (Value×AV×Nat)}{l:List MapEntry}{k:Value}{x:AV},bornA n es=some (k,x)→valEs ν es=some l→∃ v,x.val ν=some v∧l.find? (·.born == n)=some ⟨k,v,n⟩
 | e::es,l,k,x,h,hl=>by
  simp only [valEs] at hl
  split at hl
  ·rename_i v vs hv hvs
   simp only [si] at hl
   subst hl
   simp only [bornA] at h
   cases hb:Nat.beq e.2.2 n with
   | true =>
    rw [hb] at h
    have:=Nat.eq_of_beq_eq_true hb
    simp only [cond_true,si,Prod.mk.injEq] at h
    obtain⟨rfl,rfl⟩:=h
    subst this
    exact⟨v,hv,by simp⟩
   | false =>
    rw [hb] at h
    have hne:=Nat.ne_of_beq_eq_false hb
    obtain⟨u,h1,h2⟩:=bornA_spec h hvs
    refine⟨u,h1,?_⟩
    rw [List.find?_cons_of_neg (by simpa using hne)]
    exact h2
  ·cases hl
theorem entryA_sound (hm:MemOK ν m w){o:Oper}{x:Operand}(ho:o.op=.entry x){ρ:Operand→Value}{xa av:AV}(hx:xa.val ν=some (ρ x)) (h:entryA m xa=some av) :
 ∃ v,av.val ν=some v∧(execOp ρ o).run P w=.ok (.value v) w:=by
 unfold entryA at h
 split at h
 ·rename_i id
  obtain⟨p,hp,hv⟩:=ptr_val hx
  split at h
  ·rename_i mid since seen stepped hg
   obtain⟨p',ob,hp',hb,q,hq,rfl⟩:=hm.at_ id _ hg
   rw [hp] at hp'
   cases hp'
   split at h
   ·rename_i es clock stamp hg2 hst
    obtain⟨q',l,hq',hl,hb2⟩:=map_at hm hg2
    rw [hq] at hq'
    cases hq'
    cases hc:Nat.beq clock stepped with
    | false=>rw [hc] at h;cases h
    | true =>
     rw [hc] at h
     have:=Nat.eq_of_beq_eq_true hc
     subst this
     simp only [cond_true] at h
     split at h
     ·rename_i k v hbo
      simp only [si] at h
      subst h
      obtain⟨u,h1,h2⟩:=bornA_spec hbo hl
      refine⟨.tuple #[k,u],by simp only [AV.val,vals,lift_val,h1],?_⟩
      have g1:(getObj p.1).run P w=.ok (.mapIter (some q.1) since seen.toArray clock) w:=by simp [getObj,Sem.run,hb]
      have g2:(getObj q.1).run P w=.ok (.map l.toArray clock) w:=by simp [getObj,Sem.run,hb2]
      have g3:seen.toArray.back?=some stamp:=by simpa using hst
      have g4:l.toArray.find? (fun e=>e.born == stamp)=some ⟨k,u,stamp⟩:=by simpa using h2
      simp only [execOp,ho,hv,Instr.entry,Sem.run_bind,g1,Result.andThen_ok,g3,g2,g4,Sem.run_pure,bne_self_eq_false,Bool.false_eq_true,if_false]
     ·cases h
   ·cases h
  ·cases h
 ·cases h
theorem on1_some {x:Option AV}{f:AV→Option AV}{av:AV}(h:on1 x f=some av):∃ b,x=some b∧f b=some av:=by
 cases x with
 | none=>cases h
 | some b=>exact⟨b,rfl,h⟩
theorem on2_some {x y:Option AV}{f:AV→AV→Option AV}{av:AV}(h:on2 x y f=some av):∃ b c,x=some b∧y=some c∧f b c=some av:=by
 cases x with
 | none=>cases h
 | some b =>
  cases y with
  | none=>cases h
  | some c=>exact⟨b,c,rfl,rfl,h⟩
theorem mkIfcA_sound {o:Oper}{t:TypeId}{x:Operand}(ho:o.op=.makeInterface t x){b av:AV}(hx:b.val ν=some (a.eval x)) (h:mkIfcA P t b=some av) (w:World):∃ v,av.val ν=some v∧(execOp a.eval o).run P w=.ok (.value v) w:=by
 unfold mkIfcA at h
 split at h
 ·cases h
 ·rename_i d hd hu
  simp only [si] at h
  subst h
  refine⟨.iface t (a.eval x),by simp only [AV.val,hx],?_⟩
  simp only [execOp,ho,Instr.makeInterface,Sem.run_bind,run_underlying hu w,Result.andThen_ok]
  cases d<;>first|exact(hd _ rfl).elim|simp only [Sem.run_pure,Result.andThen_ok]
 ·cases h
theorem assertA_sound (hf:FitsA δ ν N S a){o:Oper}{t t':TypeId}{x:Operand}{ok:Bool}(ho:o.op=.typeAssert x t' t ok){av:AV}(h:assertA P t ok (opnd S x)=some av) (w:World):∃ v,av.val ν=some v∧(execOp a.eval o).run P w=.ok (.value v) w:=by
 unfold assertA at h
 split at h
 ·rename_i t1 b hx
  obtain⟨u,hu1,ex⟩:=hf.op hx
  obtain⟨v,hv,rfl⟩:=ifc_val hu1
  split at h
  ·cases h
  ·rename_i d hd hu
   cases hb:Nat.beq t1 t with
   | false=>rw [hb] at h;cases h
   | true =>
    rw [hb] at h
    have:=Nat.eq_of_beq_eq_true hb
    subst this
    simp only [cond_true,si] at h
    subst h
    cases ok with
    | true =>
     refine⟨.tuple #[v,.bool true],by simp only [AV.val,vals,hv],?_⟩
     simp only [execOp,ho,Instr.typeAssert,Sem.run_bind,run_underlying hu w,Result.andThen_ok,ex]
     cases d<;>first|exact(hd _ rfl).elim|simp [Sem.run_pure,Result.andThen_ok]
    | false =>
     refine⟨v,hv,?_⟩
     simp only [execOp,ho,Instr.typeAssert,Sem.run_bind,run_underlying hu w,Result.andThen_ok,ex]
     cases d<;>first|exact(hd _ rfl).elim|simp [Sem.run_pure,Result.andThen_ok]
  ·cases h
 ·cases h
theorem readOp_sound (hf:FitsA δ ν N S a) (hm:MemOK ν m w) (hG:Glob G w){o:Oper}{av:AV}(h:readOp P G m S o=some av):∃ v,av.val ν=some v∧(execOp a.eval o).run P w=.ok (.value v) w:=by
 have op1:∀ {x:Operand}{b:AV},opnd S x=some b→b.val ν=some (a.eval x):=by
  intro x b hb
  obtain⟨v,h1,h2⟩:=hf.op hb
  rw [h2];exact h1
 unfold readOp at h
 split at h
 ·rename_i x ho
  obtain⟨v,h1,h2⟩:=hf.op h
  exact⟨v,h1,by simp [execOp,ho,h2]⟩
 ·rename_i x ho
  obtain⟨v,h1,h2⟩:=hf.op h
  exact⟨v,h1,by simp [execOp,ho,h2]⟩
 ·rename_i c x y ho
  unfold pickA at h
  split at h
  ·rename_i t ht
   obtain⟨v,h1,h2⟩:=hf.op ht
   simp only [AV.val,si] at h1
   subst h1
   split at h
   ·obtain⟨u,h3,h4⟩:=hf.op h
    exact⟨u,h3,by simp [execOp,ho,h2,asBool,h4]⟩
   ·obtain⟨u,h3,h4⟩:=hf.op h
    exact⟨u,h3,by simp [execOp,ho,h2,asBool,h4]⟩
  ·cases h
 ·rename_i t parts ho
  exact orGen_sound hf h w fun h=>buildA_sound hf ho h w
 ·rename_i t x ho
  obtain⟨b,hb,h⟩:=on1_some h
  obtain⟨ad,v,h1,h2,h3⟩:=loadA_sound hm hG (op1 hb) h
  exact⟨v,h2,run_load ho h1 h3⟩
 ·rename_i x ho
  exact nilCheckA_sound hf ho h w
 ·rename_i op t x y t' ho
  exact binOpA_sound hf ho h w
 ·rename_i fn fst cap ho
  unfold makeFuncA at h
  split at h
  ·rename_i f x y hx hy
   simp only [si] at h
   subst h
   have h1:=hf.ops hx
   have h2:=hf.ops hy
   refine⟨_,by simp only [AV.val,h1,h2];rfl,?_⟩
   generalize a.eval=ρ
   simp only [execOp,ho,Instr.makeFunc,Sem.run_bind,Sem.run_pure,Result.andThen_ok]
   congr 3<;>(apply Array.ext';simp)
  ·cases h
 ·rename_i t x lo hi mx ho
  unfold sliceOpA at h
  split at h
  ·rename_i b hb
   exact orGen_sound hf h w fun h=>sliceA_sound hf ho (op1 hb) h w
  ·cases h
 ·rename_i t x f ho
  refine orGen_sound hf h w fun h=>?_
  obtain⟨b,hb,h⟩:=on1_some h
  exact fieldAddrA_sound ho (op1 hb) h w
 ·rename_i t x f ho
  refine orGen_sound hf h w fun h=>?_
  obtain⟨b,hb,h⟩:=on1_some h
  exact fieldA_sound ho (op1 hb) h w
 ·rename_i t x i ho
  refine orGen_sound hf h w fun h=>?_
  obtain⟨b,c,hb,hc,h⟩:=on2_some h
  exact indexAddrA_sound ho (op1 hb) (op1 hc) h w
 ·rename_i t x i ho
  refine orGen_sound hf h w fun h=>?_
  obtain⟨b,c,hb,hc,h⟩:=on2_some h
  exact indexA_sound ho (op1 hb) (op1 hc) h w
 ·rename_i t x k ok ho
  refine orGen_sound hf h w fun h=>?_
  obtain⟨b,c,hb,hc,h⟩:=on2_some h
  exact lookupA_sound hm ho (op1 hb) (op1 hc) h
 ·rename_i x i ho
  exact extractA_sound hf ho h w
 ·rename_i x ho
  obtain⟨b,hb,h⟩:=on1_some h
  exact entryA_sound hm ho (op1 hb) h
 ·rename_i t x ho
  obtain⟨b,hb,h⟩:=on1_some h
  exact arrayAtA_sound ho (op1 hb) h w
 ·exact genOp_sound hf h w
 ·exact genOp_sound hf h w
 ·rename_i t x ho
  obtain⟨b,hb,h⟩:=on1_some h
  exact mkIfcA_sound ho (op1 hb) h w
 ·rename_i x t' t ok ho
  exact assertA_sound hf ho h w
 ·rename_i c ho
  split at h
  ·rename_i b hc
   split at h
   ·exact lenOpA_sound hf hm ho hc h
   ·exact genOp_sound hf h w
  ·cases h
 ·cases h
end
section
variable {δ : List Deferred} {P : Program} {G : Nat → Option (List Value)} {ν : Nu} {N : Nat} {S : AE} {a : Act} {m m' : AM} {w w0 : World} {L : List Asn}
def Eff (P:Program) (ν:Nu) (w0:World) (L:List Asn) (m':AM) (s:Sem Next) (w:World) (av:AV):Prop :=
 ∃ v ν' w',ν.le ν'∧av.val ν'=some v∧St w0 (Mem ν' m'::L) w'∧(s.run P w=.ok (.value v) w'∨(s.run P w=.ok .skip w'∧v=undef))
theorem memOK (hs:St w0 (Mem ν m::L) w):MemOK ν m w:=hs.holds _ (List.mem_cons_self ..)
theorem onesA_spec:∀ {l:List AV}{vs:List Value},onesA l=true→vals ν l=some vs→vs.all oneB=true
 | [],vs,_,h=>by simp only [vals,si] at h;subst h;rfl
 | x::l,vs,h1,h=>by
  obtain⟨v,ws,h2,h3,rfl⟩:=vals_cons.1 h
  simp only [onesA] at h1
  cases ho:oneA x with
  | false=>rw [ho] at h1;cases h1
  | true =>
   rw [ho] at h1
   simp only [cond_true] at h1
   simp only [List.all_cons,Bool.and_eq_true]
   refine⟨?_,onesA_spec h1 h3⟩
   cases x with
   | num k n=>simp only [AV.val,si] at h2;subst h2;rfl
   | bool b=>simp only [AV.val,si] at h2;subst h2;rfl
   | flat u=>simp only [AV.val,si] at h2;subst h2;exact ho
   | ptr id off=>obtain⟨_,_,rfl⟩:=ptr_val h2;rfl
   | sl id off len cap kn=>obtain⟨_,_,_,rfl,_⟩:=sl_val h2;rfl
   | se id o1 o2 sub=>obtain⟨_,_,_,_,rfl⟩:=se_val h2;rfl
   | mp id=>obtain⟨_,_,rfl⟩:=mp_val h2;rfl
   | fn f x y=>obtain⟨_,_,_,_,rfl⟩:=fn_val h2;rfl
   | agg cs=>cases ho
   | tup cs=>cases ho
   | yl id=>obtain⟨_,_,rfl⟩:=yl_val h2;rfl
   | ifc t a=>obtain⟨_,_,rfl⟩:=ifc_val h2;rfl
theorem onesA_append {l l':List AV}:onesA (l++l')=(onesA l && onesA l'):=by
 induction l with
 | nil=>rfl
 | cons x l ih=>simp only [List.cons_append,onesA];cases oneA x<;>simp [ih]
theorem storeCells_run {id off:Nat}{xs:List AV}(h:storeCellsA m id off xs=some m'){p:Nat×Nat}(hp:ν id=some p){us:List Value}(hu:vals ν xs=some us) (hs:St w0 (Mem ν m::L) w) :
 ∃ w',St w0 (Mem ν m'::L) w'∧(storeCells ⟨p.1,off,none⟩ us).run P w=.ok () w':=by
 have hm:=memOK hs
 unfold storeCellsA at h
 split at h
 ·rename_i cs hc
  cases hb:Nat.ble (off+xs.length) cs.length with
  | false=>rw [hb] at h;cases h
  | true =>
   rw [hb] at h
   simp only [cond_true] at h
   cases ho:onesA xs with
   | false=>rw [ho] at h;cases h
   | true =>
    rw [ho] at h
    simp only [cond_true] at h
    have hle:=ble_true hb
    have hone:=onesA_spec ho hu
    have lu:=vals_length hu
    obtain⟨p',vs,rest,T,fr,h1,h2,h3,h4⟩:=cellsAt_spec hm hc
    rw [hp] at h1
    cases h1
    have lv:=vals_length h2
    have hr:=run_storeCells (P:=P) us w (vs++rest).toArray fr off 0 h3 (by simpa using h4) (by simp;omega) hone
    simp only [Nat.add_zero] at hr
    have hsp:Go.Sx.splice (vs++rest).toArray off us=(splice off us vs++rest).toArray:=by
     rw [sxsplice us off (by simp;omega)]
     simp only [List.toList_toArray]
     rw [splice_take off us vs rest (by omega)]
    rw [hsp] at hr
    have lsp:=splice_length off us vs (by omega)
    have hsv:=splice_vals off hu h2
    refine⟨_,?_,hr⟩
    unfold cellsAt at hc
    unfold withCells at h
    split at hc
    ·rename_i cs' hg
     rw [hg] at h
     simp only [si] at hc h
     subst hc h
     obtain⟨p',o',h5,h6,vs',T',fr',h7,rfl,h8⟩:=hm.at_ id _ hg
     rw [hp] at h5
     cases h5
     rw [h2] at h7
     cases h7
     rw [h3] at h6
     simp only [si,Obj.cells.injEq] at h6
     obtain⟨h6,-,-⟩:=h6
     have hrest:rest=[]:=by
      have:=congrArg Array.size h6
      simp only [List.size_toArray,List.length_append] at this
      exact List.eq_nil_of_length_eq_zero (by omega)
     subst hrest
     exact St.mSet hs hg hp _ ⟨splice off us vs,T,fr,hsv,by simp,by rw [lsp];simpa using h4⟩
    ·rename_i cs' z hg
     rw [hg] at h
     simp only [si] at hc h
     subst hc h
     obtain⟨p',o',h5,h6,vs',rest',T',fr',h7,rfl,h8,h9⟩:=hm.at_ id _ hg
     rw [hp] at h5
     cases h5
     rw [h2] at h7
     cases h7
     rw [h3] at h6
     simp only [si,Obj.cells.injEq] at h6
     obtain⟨h6,-,-⟩:=h6
     have hrest:rest=rest':=by
      have:=congrArg Array.toList h6
      simpa using this
     subst hrest
     refine St.mSet hs hg hp _ ⟨splice off us vs,rest,T,fr,hsv,rfl,?_,?_,h9.2⟩
     ·simp only [List.length_append,lsp] at h8 ⊢;exact h8
     ·simp only [List.length_append,lsp] at h4 ⊢;exact h4
    ·cases hc
 ·cases h
theorem newCells (hs:St w0 (Mem ν m::L) w){cs:List AV}{us:List Value}(hu:vals ν cs=some us) (T:TypeId) (cap:Nat) :
 St w0 (Mem (ν.add m.next (w.heap.size,cap)) (m.new (.cells cs))::L) { w with heap:=w.heap.push (.cells us.toArray T) }∧ν.le (ν.add m.next (w.heap.size,cap)):=by
 have hle:ν.le (ν.add m.next (w.heap.size,cap)):=Nu.le_add ((memOK hs).fresh _ (Nat.le_refl _))
 exact St.mNew hs _ _ cap ⟨us,T,(0,0),vals_mono hle cs hu,rfl,fun i _ h=>by simp at h⟩
theorem newBuf (hs:St w0 (Mem ν m::L) w){cs:List AV}{us rest:List Value}(hu:vals ν cs=some us) (T:TypeId){cap z:Nat}(hl:(us++rest).length=cap*z) (fr:Nat×Nat) (hfr:∀ i,i<(us++rest).length→¬ (fr.1≤i∧i<fr.2)) (hk:cap≤9223372036854775807) :
 St w0 (Mem (ν.add m.next (w.heap.size,cap)) (m.new (.buf cs z))::L) { w with heap:=w.heap.push (.cells (us++rest).toArray T fr) }∧ν.le (ν.add m.next (w.heap.size,cap)):=by
 have hle:ν.le (ν.add m.next (w.heap.size,cap)):=Nu.le_add ((memOK hs).fresh _ (Nat.le_refl _))
 exact St.mNew hs _ _ cap ⟨us,rest,T,fr,vals_mono hle cs hu,rfl,hl,hfr,hk⟩
theorem wr_some {r:Option AM}{av:AV}(h:wr r=some (av,m')):r=some m'∧av=.flat undef:=by
 cases r with
 | none=>cases h
 | some x=>simp only [wr,si,Prod.mk.injEq] at h;exact⟨by rw [h.2],h.1.symm⟩
theorem storeOp_sound (hf:FitsA δ ν N S a) (hs:St w0 (Mem ν m::L) w){o:Oper}{t:TypeId}{x y:Operand}(ho:o.op=.store t x y){av:AV}(h:storeOp P m t (opnd S x) (opnd S y)=some (av,m')):Eff P ν w0 L m' (execOp a.eval o) w av:=by
 unfold storeOp at h
 split at h
 ·rename_i b hb
  split at h
  ·rename_i c hc
   obtain⟨h9,e9⟩:=wr_some h
   subst e9
   clear h
   obtain⟨u,h1,ex⟩:=hf.op hb
   obtain⟨v,h2,ey⟩:=hf.op hc
   have h:=h9
   clear h9
   unfold storeA at h
   cases b with
   | ptr id off =>
    simp only at h
    cases hi:P.info? t with
    | none=>rw [hi] at h;cases h
    | some ti =>
    rw [hi] at h
    simp only at h
    cases hl:Nat.beq (cellsOf c).length ti.size with
    | false=>rw [hl] at h;cases h
    | true =>
     rw [hl] at h
     simp only [cond_true] at h
     have hl:=Nat.eq_of_beq_eq_true hl
     obtain⟨p,hp,rfl⟩:=ptr_val h1
     have hcs:=cellsOf_vals h2
     obtain⟨w',h3,h4⟩:=storeCells_run (P:=P) h hp hcs hs
     refine⟨undef,ν,w',Nu.le_refl ν,rfl,h3,.inr ⟨?_,rfl⟩⟩
     have hsz:v.cells.size=ti.size:=by rw [← Array.length_toList,vals_length hcs,hl]
     generalize a.eval=ρ at ex ey ⊢
     simp only [execOp,ho,Instr.storeAt,ex,ey,Instr.sureAddr,storeVar,sizeOf,typeInfo,Sem.run_bind,run_program,hi,Sem.run_pure,Result.andThen_ok,ne_eq,hsz,not_true_eq_false,if_false,h4]
   | _=>cases h
  ·cases h
 ·cases h
theorem allocOp_sound (hs:St w0 (Mem ν m::L) w){o:Oper}{t:TypeId}(ho:o.op=.alloc t){ρ:Operand→Value}{av:AV}(h:allocOp P m t=some (av,m')):Eff P ν w0 L m' (execOp ρ o) w av:=by
 unfold allocOp at h
 split at h
 ·rename_i z hz
  simp only [si,Prod.mk.injEq] at h
  obtain⟨rfl,rfl⟩:=h
  obtain⟨ti,zv,h1,h2,h3⟩:=zeroOf_spec (ν:=ν) hz
  obtain⟨k1,k2⟩:=newCells hs h3 t 0
  refine⟨_,_,_,k2,ptr_mk (Nu.add_self _ _ _),k1,.inl ?_⟩
  simp [execOp,ho,Instr.alloc,zeroValue,typeInfo,h1,h2,newVar,newRow,newObj,Sem.run,bind,Sem.bind,pure,program]
 ·cases h
theorem boxOp_sound (hf:FitsA δ ν N S a) (hs:St w0 (Mem ν m::L) w){o:Oper}{t:TypeId}{x:Operand}(ho:o.op=.box t x){av:AV}(h:boxOp m (opnd S x)=some (av,m')):Eff P ν w0 L m' (execOp a.eval o) w av:=by
 unfold boxOp at h
 split at h
 ·rename_i b hb
  simp only [si,Prod.mk.injEq] at h
  obtain⟨rfl,rfl⟩:=h
  obtain⟨u,h1,ex⟩:=hf.op hb
  obtain⟨k1,k2⟩:=newCells hs (cellsOf_vals h1) t 0
  refine⟨_,_,_,k2,ptr_mk (Nu.add_self _ _ _),k1,.inl ?_⟩
  generalize a.eval=ρ at ex ⊢
  simp [execOp,ho,Instr.box,ex,newVar,newRow,newObj,Sem.run,bind,Sem.bind,pure]
 ·cases h
theorem rep_vals {z:List AV}{us:List Value}(h:vals ν z=some us):∀ n,vals ν (rep n z)=some (rep n us)
 | 0=>rfl
 | n+1=>vals_append h (rep_vals h n)
theorem rep_length {α:Type}(z:List α):∀ n,(rep n z).length=n*z.length
 | 0=>by simp [rep]
 | n+1=>by simp [rep,rep_length z n,Nat.add_mul,Nat.add_comm]
theorem rep_get {α:Type}(z:List α) (hz:0<z.length):∀ (n i:Nat),i<n*z.length→(rep n z)[i]?=z[i % z.length]?
 | 0,i,h=>by simp at h
 | n+1,i,h=>by
  simp only [rep]
  by_cases hi:i<z.length
  ·rw [List.getElem?_append_left hi,Nat.mod_eq_of_lt hi]
  ·rw [List.getElem?_append_right (by omega),rep_get z hz n (i-z.length) (by rw [Nat.add_mul] at h;omega)]
   congr 1
   exact(Nat.mod_eq_sub_mod (by omega)).symm
theorem map_range0 {α:Type}(f:Nat→α):(Array.range 0).map f=#[]:=by apply Array.ext';simp [Array.toList_range]
theorem zeros_eq {zs:Array Value}(n:Nat) (hz:0<zs.size):(Array.range (n*zs.size)).map (fun i=>zs[i % zs.size]!)=(rep n zs.toList).toArray:=by
 apply Array.ext_getElem?
 intro i
 by_cases hi:i<n*zs.size
 ·have h1:i % zs.size<zs.size:=Nat.mod_lt _ hz
  have:=rep_get zs.toList (by simpa using hz) n i (by simpa using hi)
  simp only [List.getElem?_toArray,this,Array.getElem?_map]
  simp [hi,h1]
 ·have h2:(rep n zs.toList).length=n*zs.size:=by rw [rep_length];simp
  rw [Array.getElem?_eq_none (by simp;omega),Array.getElem?_eq_none (by simp [h2];omega)]
theorem zeroCells_eq {zs:Array Value}(n:Nat) (hz:0<zs.size):Builtin.zeroCells zs n=(rep n zs.toList).toArray:=zeros_eq n hz
theorem buildCells_run (hf:FitsA δ ν N S a){o:Oper}{t:TypeId}{len:Nat}{parts:Array (Nat×Operand)}(ho:o.op=.buildSlice t len parts){cs:List AV}(h:buildCells P S t len parts.toList=some cs) :
 ∃ (ws:List Value) (e:TypeId),vals ν cs=some ws∧∀ w:World,(execOp a.eval o).run P w=.ok (.value (.slice (some ⟨w.heap.size,0,none⟩) len len)) { w with heap:=w.heap.push (.cells ws.toArray e) }:=by
 unfold buildCells at h
 split at h
 ·rename_i e hu
  split at h
  ·rename_i ie z ps hie hz hps
   cases hb:(Nat.ble (len*ie.size) 16777216 && Nat.beq z.length ie.size && Nat.ble 1 ie.size) with
   | false=>rw [hb] at h;cases h
   | true =>
    rw [hb] at h
    simp only [Bool.and_eq_true] at hb
    have b1:=ble_true hb.1.1
    have b2:=Nat.eq_of_beq_eq_true hb.1.2
    have b3:=ble_true hb.2
    have hcs:fillA (fun i=>some (i*ie.size,ie.size)) (rep len z) ps=some cs:=by simpa only [cond_true] using h
    obtain⟨ti,zv,h1,h2,h3⟩:=zeroOf_spec (ν:=ν) hz
    rw [hie] at h1
    cases h1
    have lz:zv.cells.size=ie.size:=by rw [← Array.length_toList,vals_length h3,b2]
    obtain⟨ws,h4,h5⟩:=fillA_spec _ hcs (rep_vals h3 len) (partsA_spec hf hps)
    refine⟨ws,e,h4,fun w=>?_⟩
    have hns:¬ (len*ie.size>2 ^ 24):=by omega
    have hfill:Instr.fill (fun i=>some (i*ie.size,ie.size)) ((Array.range (len*ie.size)).map (fun i=>(if len*ie.size=0 then #[] else zv.cells)[i % (if len*ie.size=0 then (#[]:Array Value) else zv.cells).size]!)) (parts.map fun(i,x)=>(i,a.eval x)).toList=some ws.toArray:=by
     rw [Array.toList_map]
     by_cases hz0:len*ie.size=0
     ·rw [if_pos hz0,hz0]
      have hl0:len=0:=by
       rcases Nat.mul_eq_zero.1 hz0 with h|h
       ·exact h
       ·omega
      subst hl0
      rw [map_range0]
      simpa [rep] using h5
     ·rw [if_neg hz0]
      have e1:=zeros_eq (zs:=zv.cells) len (by omega)
      rw [lz] at e1
      rw [lz,e1]
      exact h5
    generalize a.eval=ρ at hfill ⊢
    simp only [execOp,ho,Instr.buildSlice,Sem.run_bind,run_underlying hu,Result.andThen_ok,sizeOf,typeInfo,run_program,hie,Sem.run_pure,hns,if_false,zeroValue,newRow,newObj]
    by_cases hz0:len*ie.size=0
    ·simp only [hz0,if_true] at hfill ⊢
     simp only [Sem.run_bind,Sem.run_pure,Result.andThen_ok]
     simp only [hfill]
     simp [Sem.run,bind,Sem.bind,pure]
    ·simp only [hz0,if_false] at hfill ⊢
     simp only [Sem.run_bind,run_program,Result.andThen_ok,hie,Sem.run_pure,h2]
     simp only [hfill]
     simp [Sem.run,bind,Sem.bind,pure]
  ·cases h
 ·cases h
theorem buildSliceA_sound (hf:FitsA δ ν N S a) (hs:St w0 (Mem ν m::L) w){o:Oper}{t:TypeId}{len:Nat}{parts:Array (Nat×Operand)}(ho:o.op=.buildSlice t len parts){av:AV}(h:buildSliceA P S m t len parts.toList=some (av,m')):Eff P ν w0 L m' (execOp a.eval o) w av:=by
 unfold buildSliceA at h
 split at h
 ·rename_i cs hc
  simp only [si,Prod.mk.injEq] at h
  obtain⟨rfl,rfl⟩:=h
  obtain⟨ws,e,h4,h5⟩:=buildCells_run hf ho hc
  obtain⟨k1,k2⟩:=newCells hs h4 e 0
  exact⟨_,_,_,k2,slK_mk (Nu.add_self _ _ _) (Nat.le_refl _),k1,.inl (h5 w)⟩
 ·cases h
theorem makeMapOp_sound (hs:St w0 (Mem ν m::L) w){o:Oper}{t:TypeId}{r:Option Operand}(ho:o.op=.makeMap t r){ρ:Operand→Value}{av:AV}(h:makeMapOp m r=some (av,m')):Eff P ν w0 L m' (execOp ρ o) w av:=by
 cases r with
 | some r=>cases h
 | none =>
  simp only [makeMapOp,si,Prod.mk.injEq] at h
  obtain⟨rfl,rfl⟩:=h
  obtain⟨k1,k2⟩:=St.mNew hs (.map [] 0) (.map #[] 0) 0 ⟨[],rfl,rfl⟩
  refine⟨.map (some w.heap.size),_,_,k2,by simp [AV.val,Nu.add_self],k1,.inl ?_⟩
  simp [execOp,ho,Instr.makeMap,newObj,Sem.run,bind,Sem.bind,pure]
theorem makeSliceOp_sound (hf:FitsA δ ν N S a) (hs:St w0 (Mem ν m::L) w){o:Oper}{t:TypeId}{x y:Operand}(ho:o.op=.makeSlice t x y){av:AV}(h:makeSliceOp P m t (opnd S x) (opnd S y)=some (av,m')):Eff P ν w0 L m' (execOp a.eval o) w av:=by
 unfold makeSliceOp at h
 split at h
 ·rename_i xa hxa
  split at h
  ·rename_i ya hya
   obtain⟨u,hu,ex⟩:=hf.op hxa
   obtain⟨v,hv,ey⟩:=hf.op hya
   unfold makeSliceA at h
   split at h
   ·rename_i e l c hun hl hc
    obtain⟨k,rfl⟩:=intOf_val hl hu
    obtain⟨k',rfl⟩:=intOf_val hc hv
    split at h
    ·rename_i ie z hie hz
     cases hb:(Nat.ble l c && Nat.ble c 1000000 && Nat.ble (ie.bytes*c) 281474976710656 && Nat.beq z.length ie.size && Nat.ble 1 ie.size) with
     | false=>rw [hb] at h;cases h
     | true =>
      rw [hb] at h
      simp only [Bool.and_eq_true] at hb
      have b1:=ble_true hb.1.1.1.1
      have b2:=ble_true hb.1.1.1.2
      have b3:=ble_true hb.1.1.2
      have b4:=Nat.eq_of_beq_eq_true hb.1.2
      have b5:=ble_true hb.2
      simp only [cond_true,si,Prod.mk.injEq] at h
      obtain⟨rfl,rfl⟩:=h
      obtain⟨ti,zv,h1,h2,h3⟩:=zeroOf_spec (ν:=ν) hz
      rw [hie] at h1
      cases h1
      have lz:zv.cells.size=ie.size:=by rw [← Array.length_toList,vals_length h3,b4]
      obtain⟨k1,k2⟩:=newCells hs (rep_vals h3 c) e 0
      refine⟨_,_,_,k2,slK_mk (Nu.add_self _ _ _) b1,k1,.inl ?_⟩
      have w1:IntKind.i64.wrap (l:Int)=(l:Int):=i64w (by omega) (by omega)
      have w2:IntKind.i64.wrap (c:Int)=(c:Int):=i64w (by omega) (by omega)
      have t1:¬ ((c:Int)<0):=by omega
      have t2:¬ ((ie.bytes:Int)*(c:Int)>2 ^ 48):=by
       rw [← Int.natCast_mul]
       omega
      have t3:¬ ((l:Int)<0):=by omega
      have t4:¬ ((l:Int)>(c:Int)):=by omega
      have e0:(Array.range (c*ie.size)).map (fun i=>(if c*ie.size=0 then #[] else zv.cells)[i % (if c*ie.size=0 then (#[]:Array Value) else zv.cells).size]!)=(rep c zv.cells.toList).toArray:=by
       by_cases hz0:c*ie.size=0
       ·rw [if_pos hz0,hz0]
        have hl0:c=0:=by
         rcases Nat.mul_eq_zero.1 hz0 with h|h
         ·exact h
         ·omega
        subst hl0
        rw [map_range0]
        simp [rep]
       ·rw [if_neg hz0]
        have e1:=zeros_eq (zs:=zv.cells) c (by omega)
        rw [lz] at e1
        rw [lz,e1]
      have ask:∀ b,(askRoom b).run P w=.ok () w:=by
       intro b
       unfold askRoom
       split<;>simp [mark,Sem.run]
      generalize a.eval=ρ at ex ey ⊢
      simp only [execOp,ho,ex,ey,Instr.makeSlice,Sem.run_bind,run_underlying hun,Result.andThen_ok,asInt,asIntOf,Sem.run_pure,typeInfo,run_program,hie,w1,w2,t1,t2,t3,t4,decide_false,Bool.false_or,Bool.or_self,Bool.false_eq_true,if_false,ask,Int.toNat_natCast,sizeOf,zeroValue,newRow,newObj]
      by_cases hz0:c*ie.size=0
      ·simp only [hz0,if_true] at e0 ⊢
       simp only [Sem.run_bind,Sem.run_pure,Result.andThen_ok,e0]
       simp [Sem.run,bind,Sem.bind,pure]
      ·simp only [hz0,if_false] at e0 ⊢
       simp only [Sem.run_bind,run_program,Result.andThen_ok,hie,Sem.run_pure,h2,e0]
       simp [Sem.run,bind,Sem.bind,pure]
    ·cases h
   ·cases h
  ·cases h
 ·cases h
end
theorem setNth_get {α:Type}:∀ (l:List α) (i k:Nat) (f:α→α),(setNth l i f)[k]?=if k=i then (l[k]?).map f else l[k]?
 | [],i,k,f=>by simp [setNth]
 | x::l,0,k,f=>by cases k<;>simp [setNth]
 | x::l,i+1,k,f=>by
  cases k with
  | zero=>simp [setNth]
  | succ k=>simp [setNth,setNth_get l i k f]
theorem modify_eq {α:Type}(l:List α) (i:Nat) (f:α→α):l.toArray.modify i f=(setNth l i f).toArray:=by
 apply Array.ext_getElem?
 intro k
 rw [Array.getElem?_modify]
 simp only [List.getElem?_toArray,setNth_get]
 by_cases h:i=k
 ·subst h;simp
 ·rw [if_neg h,if_neg (fun e=>h e.symm)]
section
variable {δ : List Deferred} {P : Program} {G : Nat → Option (List Value)} {ν : Nu} {N : Nat} {S : AE} {a : Act} {m m' : AM} {w w0 : World} {L : List Asn}
theorem valEs_append {es es':List (Value×AV×Nat)}{l l':List MapEntry}(h:valEs ν es=some l) (h':valEs ν es'=some l'):valEs ν (es++es')=some (l++l'):=by
 induction es generalizing l with
 | nil=>simp only [valEs,si] at h;subst h;exact h'
 | cons e es ih =>
  simp only [valEs] at h
  split at h
  ·rename_i v vs hv hvs
   simp only [si] at h
   subst h
   simp only [List.cons_append,valEs,hv,ih hvs]
  ·cases h
theorem valEs_set {es:List (Value×AV×Nat)}{l:List MapEntry}(h:valEs ν es=some l) (i:Nat){f:(Value×AV×Nat)→(Value×AV×Nat)}{g:MapEntry→MapEntry}
 (hfg:∀ e v,es[i]?=some e→e.2.1.val ν=some v→∃ u,(f e).2.1.val ν=some u∧g ⟨e.1,v,e.2.2⟩=⟨(f e).1,u,(f e).2.2⟩):valEs ν (setNth es i f)=some (setNth l i g):=by
 induction es generalizing l i with
 | nil=>simp only [valEs,si] at h;subst h;rfl
 | cons e es ih =>
  simp only [valEs] at h
  split at h
  ·rename_i v vs hv hvs
   simp only [si] at h
   subst h
   cases i with
   | zero =>
    obtain⟨u,h1,h2⟩:=hfg e v rfl hv
    simp only [setNth,valEs,h1,hvs,h2]
   | succ i =>
    have:=ih hvs i (fun e v he hv=>hfg e v (by simpa using he) hv)
    simp only [setNth,valEs,hv,this]
  ·cases h
theorem valEs_erase {es:List (Value×AV×Nat)}{l:List MapEntry}(h:valEs ν es=some l) (i:Nat):valEs ν (es.eraseIdx i)=some (l.eraseIdx i):=by
 induction es generalizing l i with
 | nil=>simp only [valEs,si] at h;subst h;rfl
 | cons e es ih =>
  simp only [valEs] at h
  split at h
  ·rename_i v vs hv hvs
   simp only [si] at h
   subst h
   cases i with
   | zero=>simpa using hvs
   | succ i=>simp only [List.eraseIdx_cons_succ,valEs,hv,ih hvs i]
  ·cases h
theorem valEs_filter {es:List (Value×AV×Nat)}{l:List MapEntry}(h:valEs ν es=some l) (p:Nat→Bool):valEs ν (es.filter fun e=>p e.2.2)=some (l.filter fun e=>p e.born):=by
 induction es generalizing l with
 | nil=>simp only [valEs,si] at h;subst h;rfl
 | cons e es ih =>
  simp only [valEs] at h
  split at h
  ·rename_i v vs hv hvs
   simp only [si] at h
   subst h
   cases hp:p e.2.2 with
   | true =>
    rw [List.filter_cons_of_pos (by simpa using hp),List.filter_cons_of_pos (by simpa using hp)]
    simp only [valEs,hv,ih hvs]
   | false =>
    rw [List.filter_cons_of_neg (by simpa using hp),List.filter_cons_of_neg (by simpa using hp)]
    exact ih hvs
  ·cases h
theorem run_getMap {r:Nat}{es:Array MapEntry}{c:Nat}(h:w.heap[r]?=some (.map es c)):(getObj r).run P w=.ok (.map es c) w:=by simp [getObj,Sem.run,h]
theorem run_setMap' {r:Nat}{es:Array MapEntry}{c:Nat}(h:w.heap[r]?=some (.map es c)) (o:Obj):(setObj r o).run P w=.ok () { w with heap:=w.heap.setIfInBounds r o }:=by simp [setObj,Sem.run,h]
theorem mapSet (hs:St w0 (Mem ν m::L) w){id clock:Nat}{es:List (Value×AV×Nat)}(hg:m.get id=some (.map es clock)){p:Nat×Nat}(hp:ν id=some p){es':List (Value×AV×Nat)}{l':List MapEntry}(hl:valEs ν es'=some l') (clock':Nat) :
 St w0 (Mem ν (m.set id (.map es' clock'))::L) { w with heap:=w.heap.setIfInBounds p.1 (.map l'.toArray clock') } :=
 St.mSet hs hg hp _ ⟨l',hl,rfl⟩
theorem stays_spec {es:List (Value×AV×Nat)}{l:List MapEntry}(hl:valEs ν es=some l){i:Nat}{k:Value}(h:stays es i k=true):∃ e,l[i]?=some e∧Instr.sameBits 10000 e.key k=true:=by
 unfold stays at h
 split at h
 ·rename_i e he
  obtain⟨v,_,h2⟩:=(valEs_spec hl).2.2 i e he
  exact⟨_,h2,h⟩
 ·cases h
theorem updOp_sound (hf:FitsA δ ν N S a) (hs:St w0 (Mem ν m::L) w){o:Oper}{t:TypeId}{x k v:Operand}(ho:o.op=.mapUpdate t x k v∨o.op=.insert t x k v){av:AV}(h:updOp P m t (opnd S x) (opnd S k) (opnd S v)=some (av,m')):Eff P ν w0 L m' (execOp a.eval o) w av:=by
 have hm:=memOK hs
 have hexec:execOp a.eval o=(do Instr.mapUpdate t (a.eval x) (a.eval k) (a.eval v);pure .skip):=by rcases ho with ho|ho<;>simp [execOp,ho]
 rw [hexec]
 unfold updOp at h
 split at h
 ·rename_i xa ka va hxa hka hva
  obtain⟨h9,e9⟩:=wr_some h
  subst e9
  clear h
  obtain⟨xv,hxv,ex⟩:=hf.op hxa
  obtain⟨kv,hkv,ek⟩:=hf.op hka
  obtain⟨vv,hvv,ev⟩:=hf.op hva
  rw [ex,ek,ev]
  unfold updateA at h9
  split at h9
  ·rename_i id k0 kt e hk0 hu
   have hk1:=flatOf_val (ν:=ν) hk0
   rw [hkv] at hk1
   cases hk1
   obtain⟨p,hp,rfl⟩:=mp_val hxv
   split at h9
   ·rename_i es clock hg
    obtain⟨p',l,hp',hl,hb⟩:=map_at hm hg
    rw [hp] at hp'
    cases hp'
    cases hko:keyOK P false kt kv with
    | false=>rw [hko] at h9;cases h9
    | true =>
     rw [hko] at h9
     simp only [cond_true] at h9
     have hck:=keyOK_spec hko w
     have g1:=run_getMap (P:=P) hb
     split at h9
     ·rename_i i hfi
      cases hst:stays es i kv with
      | false=>rw [hst] at h9;cases h9
      | true =>
       rw [hst] at h9
       simp only [cond_true,si] at h9
       subst h9
       rcases findA_spec hfi hl w with⟨h1,_⟩|⟨j,e',h1,h2,h3⟩
       ·cases h1
       ·cases h1
        obtain⟨e2,h4,h5⟩:=stays_spec hl hst
        rw [h2] at h4
        cases h4
        refine⟨undef,ν,_,Nu.le_refl ν,rfl,mapSet hs hg hp (valEs_set hl i (f:=fun e=>(kv,va,e.2.2)) (g:=fun e=>{ e with key:=kv,val:=vv }) fun e v _ _=>⟨vv,hvv,rfl⟩) clock,.inr ⟨?_,rfl⟩⟩
        have h6:(Instr.keyThatStays (((l.toArray[i]?).map (·.key)).getD kv) kv).run P w=.ok kv w:=by
         simp [Instr.keyThatStays,h2,h5]
        simp only [Instr.mapUpdate,Sem.run_bind,run_underlying hu,Result.andThen_ok,g1,hck,h3,h6,modify_eq,run_setMap' hb,Sem.run_pure]
     ·rename_i hfi
      simp only [si] at h9
      subst h9
      rcases findA_spec hfi hl w with⟨_,h1⟩|⟨j,e',h1,_,_⟩
      ·refine⟨undef,ν,_,Nu.le_refl ν,rfl,mapSet hs hg hp (valEs_append hl (es':=[(kv,va,clock)]) (l':=[⟨kv,vv,clock⟩]) (by simp [valEs,hvv])) (clock+1),.inr ⟨?_,rfl⟩⟩
       simp only [Instr.mapUpdate,Sem.run_bind,run_underlying hu,Result.andThen_ok,g1,hck,h1,List.push_toArray,run_setMap' hb,Sem.run_pure]
      ·cases h1
     ·cases h9
   ·cases h9
  ·cases h9
 ·cases h
theorem bornAt_spec {n:Nat}:∀ {es:List (Value×AV×Nat)}{l:List MapEntry}{i j:Nat},bornAt n es i=some j→valEs ν es=some l→i≤j∧l.findIdx? (fun e=>((e.born:Int) == (n:Int)))=some (j-i)
 | e::es,l,i,j,h,hl=>by
  simp only [valEs] at hl
  split at hl
  ·rename_i v vs hv hvs
   simp only [si] at hl
   subst hl
   simp only [bornAt] at h
   cases hb:Nat.beq e.2.2 n with
   | true =>
    rw [hb] at h
    have:=Nat.eq_of_beq_eq_true hb
    simp only [cond_true,si] at h
    subst h
    exact⟨Nat.le_refl _,by simp [List.findIdx?_cons,this]⟩
   | false =>
    rw [hb] at h
    have hne:=Nat.ne_of_beq_eq_false hb
    obtain⟨h1,h2⟩:=bornAt_spec h hvs
    refine⟨by omega,?_⟩
    rw [List.findIdx?_cons]
    have:((e.2.2:Int) == (n:Int))=false:=by simp only [beq_eq_false_iff_ne,ne_eq];omega
    simp only [this,Bool.false_eq_true,if_false,h2,Option.map_some]
    congr 1
    omega
  ·cases hl
theorem esOp_sound (hf:FitsA δ ν N S a) (hs:St w0 (Mem ν m::L) w){o:Oper}{t:TypeId}{x st v:Operand}(ho:o.op=.entryStore t x st v){av:AV}(h:esOp m (opnd S x) (opnd S st) (opnd S v)=some (av,m')):Eff P ν w0 L m' (execOp a.eval o) w av:=by
 have hm:=memOK hs
 unfold esOp at h
 split at h
 ·rename_i xa ka va hxa hka hva
  obtain⟨h9,e9⟩:=wr_some h
  subst e9
  clear h
  obtain⟨xv,hxv,ex⟩:=hf.op hxa
  obtain⟨kv,hkv,ek⟩:=hf.op hka
  obtain⟨vv,hvv,ev⟩:=hf.op hva
  unfold entryStoreA at h9
  split at h9
  ·rename_i id k n
   obtain⟨p,hp,rfl⟩:=mp_val hxv
   simp only [AV.val,si] at hkv
   subst hkv
   split at h9
   ·rename_i es clock hg
    obtain⟨p',l,hp',hl,hb⟩:=map_at hm hg
    rw [hp] at hp'
    cases hp'
    have g1:=run_getMap (P:=P) hb
    split at h9
    ·rename_i i hi
     simp only [si] at h9
     subst h9
     obtain⟨_,h2⟩:=bornAt_spec hi hl
     simp only [Nat.sub_zero] at h2
     refine⟨undef,ν,_,Nu.le_refl ν,rfl,mapSet hs hg hp (valEs_set hl i (f:=fun e=>(e.1,va,e.2.2)) (g:=fun e=>{ e with val:=vv }) fun e v _ _=>⟨vv,hvv,rfl⟩) clock,.inr ⟨?_,rfl⟩⟩
     have h3:l.toArray.findIdx? (fun e=>((e.born:Int) == Int.ofNat n))=some i:=by simpa using h2
     generalize a.eval=ρ at ex ek ev ⊢
     simp only [execOp,ho,ex,ek,ev,Instr.entryStore,Sem.run_bind,g1,Result.andThen_ok,asInt,asIntOf,Sem.run_pure,h3,modify_eq,run_setMap' hb]
    ·cases h9
   ·cases h9
  ·cases h9
 ·cases h
theorem meOp_sound (hf:FitsA δ ν N S a) (hs:St w0 (Mem ν m::L) w){o:Oper}{t:TypeId}{x k:Operand}(ho:o.op=.mapEntry t x k){av:AV}(h:meOp P m t (opnd S x) (opnd S k)=some (av,m')):Eff P ν w0 L m' (execOp a.eval o) w av:=by
 have hm:=memOK hs
 unfold meOp at h
 split at h
 ·rename_i xa hxa
  split at h
  ·rename_i ka hka
   obtain⟨xv,hxv,ex⟩:=hf.op hxa
   obtain⟨kv,hkv,ek⟩:=hf.op hka
   have h9:=h
   clear h
   have hexec:execOp a.eval o=(do pure (.value (← Instr.mapEntry t xv kv))):=by simp [execOp,ho,ex,ek]
   rw [hexec]
   unfold mapEntryA at h9
   split at h9
   ·rename_i id k0 kt e hk0 hu
    have hk1:=flatOf_val (ν:=ν) hk0
    rw [hkv] at hk1
    cases hk1
    obtain⟨p,hp,rfl⟩:=mp_val hxv
    split at h9
    ·rename_i es clock ie hg hie
     obtain⟨p',l,hp',hl,hb⟩:=map_at hm hg
     rw [hp] at hp'
     cases hp'
     cases hko:keyOK P false kt kv with
     | false=>rw [hko] at h9;cases h9
     | true =>
      rw [hko] at h9
      simp only [cond_true] at h9
      have hck:=keyOK_spec hko w
      have g1:=run_getMap (P:=P) hb
      split at h9
      ·rename_i i hfi
       split at h9
       ·rename_i old hold
        cases hst:stays es i kv with
        | false=>rw [hst] at h9;cases h9
        | true =>
         rw [hst] at h9
         simp only [cond_true,si,Prod.mk.injEq] at h9
         obtain⟨rfl,rfl⟩:=h9
         rcases findA_spec hfi hl w with⟨h1,_⟩|⟨j,e',h1,h2,h3⟩
         ·cases h1
         ·cases h1
          obtain⟨e2,h4,h5⟩:=stays_spec hl hst
          rw [h2] at h4
          cases h4
          obtain⟨u,h6,h7⟩:=(valEs_spec hl).2.2 i old hold
          rw [h2] at h7
          cases h7
          refine⟨.tuple #[u,.int .i64 old.2.2],ν,_,Nu.le_refl ν,by simp only [AV.val,vals,h6];rfl,mapSet hs hg hp (valEs_set hl i (f:=fun e=>(kv,e.2.1,e.2.2)) (g:=fun e=>{ e with key:=kv }) fun e v _ hv=>⟨v,hv,rfl⟩) clock,.inl ?_⟩
          have h8:(Instr.keyThatStays (((l.toArray[i]?).map (·.key)).getD kv) kv).run P w=.ok kv w:=by
           simp [Instr.keyThatStays,h2,h5]
          have h10:((l.toArray[i]?).map (fun x=>(x.born:Int))).getD 0=(old.2.2:Int):=by simp [h2]
          simp only [Instr.mapEntry,Sem.run_bind,run_underlying hu,Result.andThen_ok,g1,hck,h3,h8,h10,modify_eq,run_setMap' hb,Sem.run_pure,goInt]
       ·cases h9
      ·rename_i z hfi hz
       simp only [si,Prod.mk.injEq] at h9
       obtain⟨rfl,rfl⟩:=h9
       rcases findA_spec hfi hl w with⟨_,h1⟩|⟨j,e',h1,_,_⟩
       ·refine⟨.tuple #[z,.int .i64 clock],ν,_,Nu.le_refl ν,by simp only [AV.val,vals,lift_val];rfl,mapSet hs hg hp (valEs_append hl (es':=[(kv,lift z,clock)]) (l':=[⟨kv,z,clock⟩]) (by simp [valEs,lift_val])) (clock+1),.inl ?_⟩
        simp only [Instr.mapEntry,Sem.run_bind,run_underlying hu,Result.andThen_ok,g1,hck,h1,zeroValue,typeInfo,run_program,hie,Sem.run_pure,hz,List.push_toArray,run_setMap' hb,goInt]
       ·cases h1
      ·cases h9
    ·cases h9
   ·cases h9
  ·cases h
 ·cases h
theorem rangeA_sound (hs:St w0 (Mem ν m::L) w){o:Oper}{t:TypeId}{x:Operand}(ho:o.op=.range t x){ρ:Operand→Value}{xa av:AV}(hx:xa.val ν=some (ρ x)) (h:rangeA P m t xa=some (av,m')):Eff P ν w0 L m' (execOp ρ o) w av:=by
 have hm:=memOK hs
 unfold rangeA at h
 split at h
 ·rename_i k e id hu
  obtain⟨p,hp,hv⟩:=mp_val hx
  split at h
  ·rename_i es clock hg
   simp only [si,Prod.mk.injEq] at h
   obtain⟨rfl,rfl⟩:=h
   obtain⟨p',l,hp',hl,hb⟩:=map_at hm hg
   rw [hp] at hp'
   cases hp'
   have g1:=run_getMap (P:=P) hb
   have hne:id≠m.next:=fun e=>by have:=hm.ltNext hg;omega
   obtain⟨k1,k2⟩:=St.mNew hs (.iter id clock [] clock) (.mapIter (some p.1) clock #[] clock) 0 ⟨p,by rw [Nu.add,if_neg hne];exact hp,by simp⟩
   refine⟨_,_,_,k2,ptr_mk (Nu.add_self _ _ _),k1,.inl ?_⟩
   simp only [execOp,ho,Instr.range,hv,Sem.run_bind,run_underlying hu,Result.andThen_ok,g1,Sem.run_pure,newObj]
   simp [Sem.run]
  ·cases h
 ·cases h
theorem nextA_sound (hs:St w0 (Mem ν m::L) w){o:Oper}{str:Bool}{x:Operand}(ho:o.op=.next x str){ρ:Operand→Value}{xa av:AV}(hx:xa.val ν=some (ρ x)) (h:nextA m xa str=some (av,m')):Eff P ν w0 L m' (execOp ρ o) w av:=by
 have hm:=memOK hs
 unfold nextA at h
 split at h
 ·rename_i id
  obtain⟨p,hp,hv⟩:=ptr_val hx
  split at h
  ·rename_i mid since seen last hg
   obtain⟨p',ob,hp',hb,q,hq,rfl⟩:=hm.at_ id _ hg
   rw [hp] at hp'
   cases hp'
   split at h
   ·rename_i es clock hg2
    obtain⟨q',l,hq',hl,hb2⟩:=map_at hm hg2
    rw [hq] at hq'
    cases hq'
    have g1:(getObj p.1).run P w=.ok (.mapIter (some q.1) since seen.toArray last) w:=by simp [getObj,Sem.run,hb]
    have g2:=run_getMap (P:=P) hb2
    cases hc:(!seen.isEmpty && !es.isEmpty && es.all fun e=>Nat.ble last e.2.2) with
    | true=>rw [hc] at h;cases h
    | false =>
     rw [hc] at h
     simp only [cond_false] at h
     have hc2:(!seen.toArray.isEmpty && !l.toArray.isEmpty && l.toArray.all fun e=>decide (e.born ≥ last))=false:=by
      rw [← hc]
      have e1:l.isEmpty=es.isEmpty:=by have:=valEs_length hl;cases l<;>cases es<;>simp at this ⊢
      have e2:(l.all fun e=>decide (e.born ≥ last))=es.all fun e=>Nat.ble last e.2.2:=by
       have h1:=(valEs_spec hl).2.1
       have:∀ (l:List MapEntry) (es:List (Value×AV×Nat)),l.map (·.born)=es.map (·.2.2)→(l.all fun e=>decide (e.born ≥ last))=es.all fun e=>Nat.ble last e.2.2:=by
        intro l
        induction l with
        | nil=>intro es h;cases es<;>simp at h ⊢
        | cons x l ih =>
         intro es h
         cases es with
         | nil=>simp at h
         | cons e es =>
          simp only [List.map_cons,List.cons.injEq] at h
          simp only [List.all_cons,ih es h.2,ble_dec,h.1,ge_iff_le]
       exact this l es h1
      simp only [List.isEmpty_toArray,e1]
      congr 1
      simpa using e2
     have hleft:l.toArray.filter (fun e=>!seen.toArray.contains e.born)=(l.filter fun e=>!seen.contains e.born).toArray:=by simp
     have hv2:=valEs_filter hl (fun n=>!seen.contains n)
     have g3:∀ f:Nat→Sem Next,(Sem.bind (choose (.mapNext 1)) f).run P w=(f 0).run P w:=by
      intro f
      rw [Sem.run_bind']
      simp [choose,Sem.run,Question.forced]
     split at h
     ·rename_i hfl
      simp only [si,Prod.mk.injEq] at h
      obtain⟨rfl,rfl⟩:=h
      rw [hfl] at hv2
      simp only [valEs,si] at hv2
      refine⟨_,ν,w,Nu.le_refl ν,by simp only [AV.val,vals];rfl,hs,.inl ?_⟩
      simp only [execOp,ho,Instr.next,hv,Sem.run_bind,g1,Result.andThen_ok,g2,hc2,Bool.false_eq_true,if_false,hleft,← hv2]
      simp [choose,Sem.run,Question.forced]
     ·rename_i e hfl
      cases hlt:Nat.ble (e.2.2+1) since with
      | false=>rw [hlt] at h;cases h
      | true =>
       rw [hlt] at h
       have hlt:=ble_true hlt
       simp only [cond_true,si,Prod.mk.injEq] at h
       obtain⟨rfl,rfl⟩:=h
       rw [hfl] at hv2
       simp only [valEs] at hv2
       cases hev:e.2.1.val ν with
       | none=>rw [hev] at hv2;cases hv2
       | some u =>
        rw [hev] at hv2
        simp only [si] at hv2
        refine⟨.tuple #[.bool true,e.1,u],ν,_,Nu.le_refl ν,by simp only [AV.val,vals,lift_val,hev],St.mSet hs hg hp (.mapIter (some q.1) since (seen++[e.2.2]).toArray clock) ⟨q,hq,rfl⟩,.inl ?_⟩
        have e1:e.2.2<since:=by omega
        have e2:¬ (since≤e.2.2):=by omega
        have g4:(setObj p.1 (.mapIter (some q.1) since (seen.toArray.push e.2.2) clock)).run P w=.ok () { w with heap:=w.heap.setIfInBounds p.1 (.mapIter (some q.1) since (seen++[e.2.2]).toArray clock) }:=by
         simp [setObj,Sem.run,hb]
        simp only [execOp,ho,Instr.next,hv,Sem.run_bind,g1,Result.andThen_ok,g2,hc2,Bool.false_eq_true,if_false,hleft,← hv2]
        simp [choose,Sem.run,Question.forced,e1,e2,Sem.run_bind,g4,List.push_toArray]
        simp [setObj,Sem.run,hb]
     ·cases h
   ·cases h
  ·cases h
 ·cases h
end
theorem take_over {α:Type}:∀ (n:Nat) (us l:List α),n+us.length≤l.length→splice n us l=l.take n++us++l.drop (n+us.length)
 | 0,[],l,_=>by simp [splice,over]
 | 0,u::us,[],h=>by simp at h
 | 0,u::us,x::l,h=>by
  have:=take_over 0 us l (by simpa using h)
  simp only [splice,Nat.zero_add,List.take_zero,List.nil_append,over] at this ⊢
  rw [this]
  simp
 | n+1,us,[],h=>by simp at h
 | n+1,us,x::l,h=>by
  have:=take_over n us l (by simp at h;omega)
  simp only [splice,this]
  rw [show n+1+us.length=(n+us.length)+1 from by omega]
  simp
section
variable {δ : List Deferred} {P : Program} {G : Nat → Option (List Value)} {ν : Nu} {N : Nat} {S : AE} {a : Act} {m m' : AM} {w w0 : World} {L : List Asn}
theorem readsA_spec (hm:MemOK ν m w){size n:Nat}{x:AV}{l:List AV}(h:readsA m size n x=some l){v:Value}(hx:x.val ν=some v) :
 ∃ us,vals ν l=some us∧us.length=n*size∧∀ w1:World,w1.heap=w.heap→(Builtin.firstCells size n v).run P w1=.ok us.toArray w1:=by
 unfold readsA at h
 split at h
 ·rename_i id off len cap kn
  split at h
  ·rename_i cs hc
   obtain⟨p,vs,rest,T,fr,h1,h2,h3,h4⟩:=cellsAt_spec hm hc
   obtain⟨p',c,hp',rfl,_⟩:=sl_val hx
   rw [h1] at hp'
   cases hp'
   obtain⟨h5,h6⟩:=vals_cut h h2
   have hlen:((vs.drop off).take (n*size)).length=n*size:=by simp only [List.length_take,List.length_drop];omega
   refine⟨_,h5,hlen,fun w1 hw=>?_⟩
   simp only [Builtin.firstCells,loadCells]
   refine run_loadCells0 _ _ (by simpa using hlen) fun i hi=>?_
   have hi':i<n*size:=by simpa [hlen] using hi
   rw [add_mk,cell_of (w:=w1) (by rw [hw];exact h3) (by omega)]
   simp only [List.getElem?_toArray]
   rw [List.getElem?_take,if_pos hi',List.getElem?_drop]
  ·cases h
 ·obtain⟨p,off,c,_,rfl⟩:=se_val hx
  cases hn:Nat.beq n 0 with
  | false=>rw [hn] at h;cases h
  | true =>
   rw [hn] at h
   obtain rfl:=Nat.eq_of_beq_eq_true hn
   simp only [cond_true,si] at h
   subst h
   exact⟨[],rfl,by simp,fun w1 _=>by simp [Builtin.firstCells,loadCells,loadCellsFrom]⟩
 ·simp only [AV.val,si] at hx
  subst hx
  cases hn:Nat.beq n 0 with
  | false=>rw [hn] at h;cases h
  | true =>
   rw [hn] at h
   obtain rfl:=Nat.eq_of_beq_eq_true hn
   simp only [cond_true,si] at h
   subst h
   exact⟨[],rfl,by simp,fun w1 _=>by simp [Builtin.firstCells]⟩
 ·rename_i s
  simp only [AV.val,si] at hx
  subst hx
  cases hn:Nat.beq size 1 with
  | false=>rw [hn] at h;cases h
  | true =>
   rw [hn] at h
   obtain rfl:=Nat.eq_of_beq_eq_true hn
   simp only [cond_true] at h
   split at h
   ·rename_i hle
    simp only [si] at h
    subst h
    have key:∀ l:List UInt8,vals ν (l.map fun b=>AV.num .u8 b.toNat)=some (l.map fun b=>Value.int .u8 (b.toNat:Int)):=by
     intro l
     induction l with
     | nil=>rfl
     | cons b l ih=>exact vals_cons_mk rfl ih
    have hsz:s.data.toList.length=s.size:=Array.length_toList
    have hle:=of_decide_eq_true hle
    refine⟨_,key _,by(rw [List.length_map,List.length_take,hsz,Nat.mul_one];exact Nat.min_eq_left hle),fun w1 _=>?_⟩
    simp only [Builtin.firstCells,Sem.run_pure]
    congr 1
    apply Array.ext'
    simp [ByteArray.toList_eq,ByteArray.data_extract]
   ·cases h
 ·cases h
theorem lenA_spec {x:AV}{n:Nat}{v:Value}(h:lenA x=some n) (hx:x.val ν=some v) (w:World):(Builtin.lenOf v).run P w=.ok n w:=by
 unfold lenA at h
 split at h
 ·obtain⟨p,c,_,rfl,_⟩:=sl_val hx;cases h;rfl
 ·obtain⟨p,_,c,_,rfl⟩:=se_val hx;cases h;rfl
 ·simp only [AV.val,si] at hx;subst hx;cases h;rfl
 ·simp only [AV.val,si] at hx;subst hx;cases h;rfl
 ·cases h
theorem run_newRow (e:TypeId) (cs:Array Value) (w1:World):(newRow e cs).run P w1=.ok ⟨w1.heap.size,0,none⟩ { w1 with heap:=w1.heap.push (.cells cs e) }:=rfl
theorem appendRun {ts:Array TypeId}{t t' e ty:TypeId}{d:TypeDesc}{ie:TypeInfo}{z:Value}{base:Option Addr}{sLen sCap:Nat}{x:Value}{n:Nat}{us:List Value}
 (h0:ts[0]?=some t) (h1:ts[1]?=some t') (hu:P.underlying t=some (.slice e)) (hu':P.underlying t'=some d) (hi:P.info? e=some ie) (hz:ie.zero=some z)
 (hpos:0<ie.size) (hzs:z.cells.size=ie.size) (hlen:us.length=n*ie.size) (hbig:(sLen+n)*(ie.bytes+1)≤1000000000)
 (hx:(isIntT (some d)=true∧(∃ k,x=.int k (n:Int))∧us=rep n z.cells.toList) ∨
  (isIntT (some d)=false∧(∀ w1:World,(Builtin.lenOf x).run P w1=.ok n w1)∧∀ w1:World,w1.heap=w.heap→(Builtin.firstCells ie.size n x).run P w1=.ok us.toArray w1)) :
 (sLen+n≤sCap→(Builtin.append_ ts ty #[.slice base sLen sCap,x]).run P w=((match base with
  | some ad=>storeCells (ad.add (sLen*ie.size)) us
  | none=>pure ()).run P w).andThen fun _ w'=>.ok (.slice base (sLen+n) sCap) w') ∧
 (sCap<sLen+n→∀ olds:List Value,olds.length=sLen*ie.size→(∀ w1:World,w1.heap=w.heap→(Builtin.firstCells ie.size sLen (.slice base sLen sCap)).run P w1=.ok olds.toArray w1) →
  ∃ cap,sLen+n≤cap∧cap≤9223372036854775807∧(Builtin.append_ ts ty #[.slice base sLen sCap,x]).run P w=.ok (.slice (some ⟨w.heap.size,0,none⟩) (sLen+n) cap)
   { w with drawn:=w.drawn+1,heap:=w.heap.push (.cells (olds++us++rep (cap-(sLen+n)) z.cells.toList).toArray e) }):=by
 have hb1:sLen+n≤1000000000:=Nat.le_trans (Nat.le_mul_of_pos_right _ (by omega)) hbig
 have hb2:(sLen+n)*ie.bytes≤1000000000:=Nat.le_trans (Nat.mul_le_mul_left _ (by omega)) hbig
 have hn2:n*ie.bytes≤1000000000:=Nat.le_trans (Nat.mul_le_mul_right _ (by omega)) hb2
 have ask:∀ b w,(askRoom b).run P w=.ok () w:=by
  intro b w
  unfold askRoom
  split<;>simp [mark,Sem.run]
 have hzc:∀ k,Builtin.zeroCells z.cells k=(rep k z.cells.toList).toArray:=fun k=>zeroCells_eq k (by omega)
 rcases hx with⟨hint,⟨k,rfl⟩,rfl⟩|⟨hint,hlo,hfc⟩
 ·obtain⟨k',rfl⟩:∃ k',d=.int k':=by
   cases d<;>first|exact⟨_,rfl⟩|cases hint
  have w1:IntKind.i64.wrap (n:Int)=(n:Int):=i64w (by omega) (by omega)
  have t1:¬ ((n:Int)<0):=by omega
  have t2:¬ ((n:Int)*(ie.bytes:Int)>2 ^ 48):=by
   rw [← Int.natCast_mul];omega
  have hmatch:(TypeDesc.int k' matches .int _)=true:=rfl
  have t2':¬ (281474976710656<(n:Int)*(ie.bytes:Int)):=by
   rw [← Int.natCast_mul];omega
  constructor
  ·intro hfit
   by_cases hz0:n*ie.size=0
   ·have hn0:n=0:=by
     rcases Nat.mul_eq_zero.1 hz0 with h|h
     ·exact h
     ·omega
    simp [Builtin.append_,h0,h1,run_underlying hu,run_underlying hu',sizeOf,typeInfo,hi,asInt,asIntOf,w1,t1,t2',hfit,hz0]
    cases base<;>simp [hn0,rep,storeCells]
   ·simp [Builtin.append_,h0,h1,run_underlying hu,run_underlying hu',sizeOf,typeInfo,zeroValue,hi,hz,asInt,asIntOf,w1,t1,t2',hfit,hz0,hzc]
    cases base<;>simp
  ·intro hno olds hol hold
   have hns:¬ (sLen+n≤sCap):=by omega
   have hnc:Builtin.nextslicecap (sLen+n) sCap*ie.bytes≤281474976710656:=growslice_fits hno (by omega)
   have hnc':¬ (281474976710656<Builtin.nextslicecap (sLen+n) sCap*ie.bytes):=by omega
   have hmx:¬ (9223372036854775807<(sLen:Int)+(n:Int)):=by omega
   refine⟨grownCap w (sLen+n) sCap e,grownCap_ge w (sLen+n) sCap e,grownCap_le_maxLen w (sLen+n) sCap e (by simp only [maxLen];omega),?_⟩
   by_cases hz0:n*ie.size=0
   ·have hn0:n=0:=by
     rcases Nat.mul_eq_zero.1 hz0 with h|h
     ·exact h
     ·omega
    simp [Builtin.append_,h0,h1,run_underlying hu,run_underlying hu',sizeOf,typeInfo,zeroValue,hi,hz,asInt,asIntOf,w1,t1,t2',hns,hz0,hzc,hnc',hmx,Question.forced,ask,hold w.drew rfl]
    have hr0:rep n z.cells.toList=[]:=by rw [hn0];rfl
    simp only [run_newRow,Result.andThen_ok,List.append_assoc,hr0,List.nil_append]
    rfl
   ·simp [Builtin.append_,h0,h1,run_underlying hu,run_underlying hu',sizeOf,typeInfo,zeroValue,hi,hz,asInt,asIntOf,w1,t1,t2',hns,hz0,hzc,hnc',hmx,Question.forced,ask,hold w.drew rfl]
    simp only [run_newRow,Result.andThen_ok,List.append_assoc]
    rfl
 ·have hint2:∀ k,d≠.int k:=fun k e=>by rw [e] at hint;cases hint
  have hm:(match d with | .int _=>true|_=>false)=false:=by cases d<;>first|rfl|exact absurd rfl (hint2 _)
  constructor
  ·intro hfit
   simp [Builtin.append_,h0,h1,run_underlying hu,run_underlying hu',sizeOf,typeInfo,hi,hm,hlo,hfit,hfc w rfl]
   cases base<;>simp
  ·intro hno olds hol hold
   have hns:¬ (sLen+n≤sCap):=by omega
   have hnc:Builtin.nextslicecap (sLen+n) sCap*ie.bytes≤281474976710656:=growslice_fits hno (by omega)
   have hnc':¬ (281474976710656<Builtin.nextslicecap (sLen+n) sCap*ie.bytes):=by omega
   have hmx:¬ (9223372036854775807<(sLen:Int)+(n:Int)):=by omega
   refine⟨grownCap w (sLen+n) sCap e,grownCap_ge w (sLen+n) sCap e,grownCap_le_maxLen w (sLen+n) sCap e (by simp only [maxLen];omega),?_⟩
   simp [Builtin.append_,h0,h1,run_underlying hu,run_underlying hu',sizeOf,typeInfo,zeroValue,hi,hz,hm,hlo,hns,hzc,hnc',hmx,Question.forced,ask,hold w.drew rfl,hfc w.drew rfl]
   simp only [run_newRow,Result.andThen_ok,List.append_assoc]
   rfl
theorem rep_all {z:List AV}(h:onesA z=true):∀ n,onesA (rep n z)=true
 | 0=>rfl
 | n+1=>by rw [rep,onesA_append,h,rep_all h n];rfl
theorem appTo_sound (hs:St w0 (Mem ν m::L) w){ts:Array TypeId}{t t' e ty:TypeId}{d:TypeDesc}{ie:TypeInfo}{z:Value}{x:Value}{s av:AV}{sv:Value}{n:Nat}{news:List AV}{us:List Value}
 (h0:ts[0]?=some t) (h1:ts[1]?=some t') (hu:P.underlying t=some (.slice e)) (hu':P.underlying t'=some d) (hi:P.info? e=some ie) (hz:ie.zero=some z)
 (hpos:0<ie.size) (hzs:z.cells.size=ie.size) (hn:vals ν news=some us) (hone:onesA news=true) (hlen:us.length=n*ie.size) (hsv:s.val ν=some sv)
 (hx:(isIntT (some d)=true∧(∃ k,x=.int k (n:Int))∧us=rep n z.cells.toList) ∨
  (isIntT (some d)=false∧(∀ w1:World,(Builtin.lenOf x).run P w1=.ok n w1)∧∀ w1:World,w1.heap=w.heap→(Builtin.firstCells ie.size n x).run P w1=.ok us.toArray w1))
 (h:appTo m ie.size ie.bytes s n news=some (av,m')) :
 ∃ v ν' w',ν.le ν'∧av.val ν'=some v∧St w0 (Mem ν' m'::L) w'∧(Builtin.append_ ts ty #[sv,x]).run P w=.ok v w':=by
 have hm:=memOK hs
 have drew:∀ {A:List Asn},St w0 A w→St w0 A { w with drawn:=w.drawn+1 }:=fun h=>h.drew
 unfold appTo at h
 split at h
 ·
  simp only [AV.val,si] at hsv
  subst hsv
  cases hb:Nat.ble (n*(ie.bytes+1)) 1000000000 with
  | false=>rw [hb] at h;cases h
  | true =>
   rw [hb] at h
   have hb:=ble_true hb
   simp only [cond_true] at h
   obtain⟨r1,r2⟩:=appendRun (P:=P) (ty:=ty) (base:=none) (sLen:=0) (sCap:=0) h0 h1 hu hu' hi hz hpos hzs hlen (by simpa using hb) hx
   cases hn0:Nat.beq n 0 with
   | true =>
    rw [hn0] at h
    have:=Nat.eq_of_beq_eq_true hn0
    subst this
    simp only [cond_true,si,Prod.mk.injEq] at h
    obtain⟨rfl,rfl⟩:=h
    refine⟨_,ν,w,Nu.le_refl ν,rfl,hs,?_⟩
    rw [r1 (Nat.le_refl _)]
    simp
   | false =>
    rw [hn0] at h
    have hne:=Nat.ne_of_beq_eq_false hn0
    simp only [cond_false,si] at h
    obtain⟨cap,hc,hcm,hr⟩:=r2 (by omega) [] (by simp) (fun w1 _=>by simp [Builtin.firstCells])
    simp only [List.nil_append,Nat.zero_add] at hr hc
    have hl2:(us++rep (cap-n) z.cells.toList).length=cap*ie.size:=by
     rw [List.length_append,rep_length,hlen,Array.length_toList,hzs,← Nat.add_mul]
     congr 1;omega
    obtain⟨k1,k2⟩:=newBuf (drew hs) hn e (z:=ie.size) hl2 (0,0) (fun i _ h=>by simp at h) hcm
    simp only [growA,Prod.mk.injEq] at h
    obtain⟨rfl,rfl⟩:=h
    refine⟨_,_,_,k2,slU_mk (Nu.add_self _ _ _) hc (by simp),k1,?_⟩
    rw [hr]
 ·rename_i id off len cap kn
  obtain⟨p,c,hp,rfl,hlc,k1,k2⟩:=sl_val hsv
  cases hb:Nat.ble ((len+n)*(ie.bytes+1)) 1000000000 with
  | false=>rw [hb] at h;cases h
  | true =>
   rw [hb] at h
   have hb:=ble_true hb
   simp only [cond_true] at h
   obtain⟨r1,r2⟩:=appendRun (P:=P) (ty:=ty) (base:=some ⟨p.1,off,none⟩) (sLen:=len) (sCap:=c) h0 h1 hu hu' hi hz hpos hzs hlen hb hx
   cases kn with
   | false =>
    simp only at h
    split at h
    ·rename_i cs z' hg
     cases hb2:(Nat.beq z' ie.size && Nat.beq off 0 && Nat.beq cap 0 && Nat.ble (len*ie.size) cs.length) with
     | false=>rw [hb2] at h;cases h
     | true =>
      rw [hb2] at h
      simp only [Bool.and_eq_true] at hb2
      obtain⟨⟨⟨q1,q2⟩,q3⟩,q4⟩:=hb2
      obtain rfl:=Nat.eq_of_beq_eq_true q1
      obtain rfl:=Nat.eq_of_beq_eq_true q2
      obtain rfl:=Nat.eq_of_beq_eq_true q3
      have q4:=ble_true q4
      have hcp:c=p.2:=by have:=k2 rfl;omega
      simp only [cond_true,si,growA,Prod.mk.injEq] at h
      obtain⟨rfl,rfl⟩:=h
      obtain⟨p',o',h5,h6,vs,rest,T,fr,h7,rfl,h8,h9⟩:=hm.at_ id _ hg
      rw [hp] at h5
      cases h5
      have lv:=vals_length h7
      have holdv:=vals_take (len*ie.size) h7
      have hnew:=vals_append holdv hn
      by_cases hfit:len+n≤c
      ·
       have hfit2:len*ie.size+us.length≤(vs++rest).length:=by
        rw [h8,hlen,← Nat.add_mul,← hcp]
        exact Nat.mul_le_mul_right _ hfit
       have hst:=run_storeCells (P:=P) us w (vs++rest).toArray fr (len*ie.size) 0 h6 (by simpa using h9.1) (by simpa using hfit2) (onesA_spec hone hn)
       simp only [Nat.add_zero] at hst
       have hsp:Go.Sx.splice (vs++rest).toArray (len*ie.size) us=((vs.take (len*ie.size)++us)++(vs++rest).drop (len*ie.size+us.length)).toArray:=by
        rw [sxsplice us _ (by simpa using hfit2)]
        simp only [List.toList_toArray]
        rw [take_over _ us _ hfit2,List.take_append_of_le_length (by rw [lv];exact q4)]
       rw [hsp] at hst
       have hle:=Nu.le_add (p:=p) (hm.fresh _ (Nat.le_refl _))
       have hlen3:((vs.take (len*ie.size)++us)++(vs++rest).drop (len*ie.size+us.length)).length=(vs++rest).length:=by
        have:(vs.take (len*ie.size)).length=len*ie.size:=by rw [List.length_take];omega
        rw [List.length_append,List.length_append,this,List.length_drop]
        omega
       obtain⟨j1,j2⟩:=St.mMove hs hg hp _ (blk':=.buf (cs.take (len*ie.size)++news) ie.size) ⟨vs.take (len*ie.size)++us,(vs++rest).drop (len*ie.size+us.length),T,fr,vals_mono hle _ hnew,rfl,by rw [hlen3];exact h8,by rw [hlen3];exact h9.1,h9.2⟩
       refine⟨_,_,_,j2,slU_mk (Nu.add_self _ _ _) (c:=c) (by omega) (by omega),j1,?_⟩
       rw [r1 hfit]
       simp only [add_mk,Nat.zero_add]
       rw [hst]
       rfl
      ·
       have holds:(vs.take (len*ie.size)).length=len*ie.size:=by rw [List.length_take];omega
       have hf1:∀ w1:World,w1.heap=w.heap→(Builtin.firstCells ie.size len (.slice (some ⟨p.1,0,none⟩) len c)).run P w1=.ok (vs.take (len*ie.size)).toArray w1:=by
        intro w1 hw
        simp only [Builtin.firstCells,loadCells]
        refine run_loadCells0 _ _ (by simpa using holds) fun i hi=>?_
        have hi':i<len*ie.size:=by rw [List.size_toArray,holds] at hi;exact hi
        rw [add_mk,Nat.zero_add,cell_of (w:=w1) (by rw [hw];exact h6) (by omega)]
        simp only [List.getElem?_toArray]
        rw [List.getElem?_take,if_pos hi']
       obtain⟨cap',hc',hcm,hr⟩:=r2 (by omega) _ holds hf1
       have hl2:((vs.take (len*ie.size)++us)++rep (cap' - (len+n)) z.cells.toList).length=cap'*ie.size:=by
        rw [List.length_append,List.length_append,holds,rep_length,hlen,Array.length_toList,hzs,← Nat.add_mul,← Nat.add_mul]
        congr 1;omega
       obtain⟨j1,j2⟩:=newBuf (St.mDel (drew hs) id) hnew e (z:=ie.size) hl2 (0,0) (fun i _ h=>by simp at h) hcm
       refine⟨_,_,_,j2,slU_mk (Nu.add_self _ _ _) hc' (by simp),j1,?_⟩
       rw [hr]
    ·cases h
   | true =>
    have hcc:=k1 rfl
    subst hcc
    simp only at h
    cases hfit:Nat.ble (len+n) c with
    | true =>
     rw [hfit] at h
     have hfit:=ble_true hfit
     simp only [cond_true] at h
     split at h
     ·rename_i m2 hst
      simp only [si,Prod.mk.injEq] at h
      obtain⟨rfl,rfl⟩:=h
      obtain⟨w',h2,h3⟩:=storeCells_run (P:=P) hst hp hn hs
      refine⟨_,ν,w',Nu.le_refl ν,slK_mk hp hfit,h2,?_⟩
      rw [r1 hfit]
      simp only [add_mk]
      rw [h3]
      rfl
     ·cases h
    | false =>
     rw [hfit] at h
     have hfit:¬ (len+n≤c):=fun hle=>by rw [Nat.ble_eq_true_of_le hle] at hfit;cases hfit
     simp only [cond_false] at h
     split at h
     ·rename_i old hold
      simp only [si,growA,Prod.mk.injEq] at h
      obtain⟨rfl,rfl⟩:=h
      obtain⟨os,o1,o2,o3⟩:=readsA_spec (P:=P) hm hold hsv
      obtain⟨cap',hc',hcm,hr⟩:=r2 (by omega) os o2 o3
      have hl2:((os++us)++rep (cap' - (len+n)) z.cells.toList).length=cap'*ie.size:=by
       rw [List.length_append,List.length_append,o2,rep_length,hlen,Array.length_toList,hzs,← Nat.add_mul,← Nat.add_mul]
       congr 1;omega
      obtain⟨j1,j2⟩:=newBuf (drew hs) (vals_append o1 hn) e (z:=ie.size) hl2 (0,0) (fun i _ h=>by simp at h) hcm
      refine⟨_,_,_,j2,slU_mk (Nu.add_self _ _ _) hc' (by simp),j1,?_⟩
      rw [hr]
     ·cases h
 ·cases h
theorem appendA_sound (hs:St w0 (Mem ν m::L) w){ts:Array TypeId}{ty:TypeId}{asx:List AV}{vs:List Value}{av:AV}(hv:vals ν asx=some vs) (h:appendA P m ts.toList asx=some (av,m')) :
 ∃ v ν' w',ν.le ν'∧av.val ν'=some v∧St w0 (Mem ν' m'::L) w'∧(Builtin.append_ ts ty vs.toArray).run P w=.ok v w':=by
 have hm:=memOK hs
 unfold appendA at h
 split at h
 ·rename_i t t' tl s x hts
  obtain⟨sv,l1,hsv,hl1,rfl⟩:=vals_cons.1 hv
  obtain⟨xv,l2,hxv,hl2,rfl⟩:=vals_cons.1 hl1
  simp only [vals,si] at hl2
  subst hl2
  have h0:ts[0]?=some t:=by rw [← Array.getElem?_toList,hts];rfl
  have h1:ts[1]?=some t':=by rw [← Array.getElem?_toList,hts];rfl
  split at h
  ·rename_i e d hu hu'
   split at h
   ·rename_i ie z hie hz
    cases hb:(Nat.beq z.length ie.size && Nat.ble 1 ie.size && onesA z) with
    | false=>rw [hb] at h;cases h
    | true =>
     rw [hb] at h
     simp only [Bool.and_eq_true] at hb
     obtain⟨⟨q1,q2⟩,q3⟩:=hb
     have q1:=Nat.eq_of_beq_eq_true q1
     have q2:=ble_true q2
     simp only [cond_true] at h
     obtain⟨ti,zv,z1,z2,z3⟩:=zeroOf_spec (ν:=ν) hz
     rw [hie] at z1
     cases z1
     have lz:zv.cells.size=ie.size:=by rw [← Array.length_toList,vals_length z3,q1]
     split at h
     ·rename_i n news hnews
      unfold appNews at hnews
      split at hnews
      ·rename_i hint
       split at hnews
       ·rename_i n' hn'
        cases hb3:Nat.ble (n'*(ie.bytes+1)) 1000000000 with
        | false=>rw [hb3] at hnews;cases hnews
        | true =>
         rw [hb3] at hnews
         simp only [cond_true,si,Prod.mk.injEq] at hnews
         obtain⟨rfl,rfl⟩:=hnews
         obtain⟨k,rfl⟩:=intOf_val hn' hxv
         exact appTo_sound hs h0 h1 hu hu' hie z2 q2 lz (rep_vals z3 n') (rep_all q3 n') (by rw [rep_length,Array.length_toList,lz]) hsv (.inl ⟨hint,⟨k,rfl⟩,rfl⟩) h
       ·cases hnews
      ·rename_i hint
       split at hnews
       ·rename_i n' hn'
        split at hnews
        ·rename_i l hl
         cases ho:onesA l with
         | false=>rw [ho] at hnews;cases hnews
         | true =>
          rw [ho] at hnews
          simp only [cond_true,si,Prod.mk.injEq] at hnews
          obtain⟨rfl,rfl⟩:=hnews
          obtain⟨us,u1,u2,u3⟩:=readsA_spec (P:=P) hm hl hxv
          exact appTo_sound hs h0 h1 hu hu' hie z2 q2 lz u1 ho u2 hsv (.inr ⟨hint,fun w1=>lenA_spec hn' hxv w1,u3⟩) h
        ·cases hnews
       ·cases hnews
     ·cases h
   ·cases h
  ·cases h
 ·cases h
theorem copyA_sound (hs:St w0 (Mem ν m::L) w){ts:Array TypeId}{ty:TypeId}{asx:List AV}{vs:List Value}{av:AV}(hv:vals ν asx=some vs) (h:copyA P m ts.toList asx=some (av,m')) :
 ∃ v w',av.val ν=some v∧St w0 (Mem ν m'::L) w'∧(Builtin.copy_ ts ty vs.toArray).run P w=.ok v w':=by
 have hm:=memOK hs
 unfold copyA at h
 split at h
 ·rename_i t tl dd x hts
  obtain⟨sv,l1,hsv,hl1,rfl⟩:=vals_cons.1 hv
  obtain⟨xv,l2,hxv,hl2,rfl⟩:=vals_cons.1 hl1
  simp only [vals,si] at hl2
  subst hl2
  have h0:ts[0]?=some t:=by rw [← Array.getElem?_toList,hts];rfl
  split at h
  ·rename_i e hu
   split at h
   ·rename_i ie dl xl hie hdl hxl
    have l1:=lenA_spec (P:=P) hxl hxv w
    split at h
    ·rename_i new id off len cap kn hnew
     obtain⟨us,u1,u2,u3⟩:=readsA_spec (P:=P) hm hnew hxv
     obtain⟨p,c,hp,rfl,_⟩:=sl_val hsv
     simp only [lenA,si] at hdl
     subst hdl
     split at h
     ·rename_i m2 hst
      simp only [si,Prod.mk.injEq] at h
      obtain⟨rfl,rfl⟩:=h
      obtain⟨w',h2,h3⟩:=storeCells_run (P:=P) hst hp u1 hs
      refine⟨_,w',rfl,h2,?_⟩
      have u4:=u3 w rfl
      simp only [Builtin.copy_,h0,List.getElem?_toArray,List.getElem?_cons_zero,List.getElem?_cons_succ,Sem.run_bind,run_underlying hu,Result.andThen_ok,l1,sizeOf,typeInfo,run_program,hie,Sem.run_pure]
      rw [show Nat.min xl len=min xl len from rfl,u4]
      simp only [Result.andThen_ok,h3,goInt]
      rfl
     ·cases h
    ·cases h
   ·cases h
  ·cases h
 ·cases h
theorem deleteA_sound (hs:St w0 (Mem ν m::L) w){ts:Array TypeId}{ty:TypeId}{asx:List AV}{vs:List Value}(hv:vals ν asx=some vs) (h:deleteA P m ts.toList asx=some m') :
 ∃ w',St w0 (Mem ν m'::L) w'∧(Builtin.delete_ ts ty vs.toArray).run P w=.ok (.tuple #[]) w':=by
 have hm:=memOK hs
 unfold deleteA at h
 split at h
 ·rename_i t tl id kk hts
  obtain⟨sv,l1,hsv,hl1,rfl⟩:=vals_cons.1 hv
  obtain⟨xv,l2,hxv,hl2,rfl⟩:=vals_cons.1 hl1
  simp only [vals,si] at hl2
  subst hl2
  have h0:ts[0]?=some t:=by rw [← Array.getElem?_toList,hts];rfl
  split at h
  ·rename_i kt e k hu hk
   have hk1:=flatOf_val (ν:=ν) hk
   rw [hxv] at hk1
   cases hk1
   obtain⟨p,hp,rfl⟩:=mp_val hsv
   split at h
   ·rename_i es clock hg
    obtain⟨p',l,hp',hl,hb⟩:=map_at hm hg
    rw [hp] at hp'
    cases hp'
    cases hko:keyOK P (emptyL es) kt xv with
    | false=>rw [hko] at h;cases h
    | true =>
     rw [hko] at h
     simp only [cond_true] at h
     have hem:l.toArray.isEmpty=emptyL es:=by
      rw [emptyL_eq]
      have:=valEs_length hl
      cases l<;>cases es<;>simp at this ⊢
     have hck:=keyOK_spec hko w
     have g1:=run_getMap (P:=P) hb
     split at h
     ·rename_i i hfi
      simp only [si] at h
      subst h
      rcases findA_spec hfi hl w with⟨h1,_⟩|⟨j,e',h1,h2,h3⟩
      ·cases h1
      ·cases h1
       refine⟨_,mapSet hs hg hp (valEs_erase hl i) clock,?_⟩
       have hlt:i<l.length:=(List.getElem?_eq_some_iff.1 h2).1
       have he:l.toArray.eraseIdxIfInBounds i=(l.eraseIdx i).toArray:=by simp [Array.eraseIdxIfInBounds,hlt]
       simp only [Builtin.delete_,h0,List.getElem?_toArray,List.getElem?_cons_zero,List.getElem?_cons_succ,Sem.run_bind,run_underlying hu,Result.andThen_ok,g1,hem,hck,h3,he,run_setMap' hb,Sem.run_pure]
     ·rename_i hfi
      simp only [si] at h
      subst h
      rcases findA_spec hfi hl w with⟨_,h1⟩|⟨j,e',h1,_,_⟩
      ·refine⟨w,hs,?_⟩
       have hsame:({ w with heap:=w.heap.setIfInBounds p.1 (.map l.toArray clock) }:World)=w:=by
        have:w.heap.setIfInBounds p.1 (.map l.toArray clock)=w.heap:=by
         apply Array.ext_getElem?
         intro k
         rw [Array.getElem?_setIfInBounds]
         split
         ·rename_i hk;subst hk;split
          ·exact hb.symm
          ·rename_i hge;rw [Array.getElem?_eq_none (by omega)]
         ·rfl
        rw [this]
       simp only [Builtin.delete_,h0,List.getElem?_toArray,List.getElem?_cons_zero,List.getElem?_cons_succ,Sem.run_bind,run_underlying hu,Result.andThen_ok,g1,hem,hck,h1,run_setMap' hb,Sem.run_pure,hsame]
      ·cases h1
     ·cases h
   ·cases h
  ·cases h
 ·cases h
theorem clearA_sound (hs:St w0 (Mem ν m::L) w){ts:Array TypeId}{ty:TypeId}{asx:List AV}{vs:List Value}(hv:vals ν asx=some vs) (h:clearA P m ts.toList asx=some m') :
 ∃ w',St w0 (Mem ν m'::L) w'∧(Builtin.clear_ ts ty vs.toArray).run P w=.ok (.tuple #[]) w':=by
 have hm:=memOK hs
 unfold clearA at h
 split at h
 ·rename_i t tl id off len cap kn hts
  obtain⟨sv,l1,hsv,hl1,rfl⟩:=vals_cons.1 hv
  simp only [vals,si] at hl1
  subst hl1
  have h0:ts[0]?=some t:=by rw [← Array.getElem?_toList,hts];rfl
  obtain⟨p,c,hp,rfl,_⟩:=sl_val hsv
  split at h
  ·rename_i e hu
   split at h
   ·rename_i ie z hie hz
    cases hb:(Nat.beq z.length ie.size && Nat.ble 1 ie.size && Nat.ble 1 len) with
    | false=>rw [hb] at h;cases h
    | true =>
     rw [hb] at h
     simp only [Bool.and_eq_true] at hb
     obtain⟨⟨q1,q2⟩,q3⟩:=hb
     have q1:=Nat.eq_of_beq_eq_true q1
     have q2:=ble_true q2
     have q3:=ble_true q3
     simp only [cond_true] at h
     obtain⟨ti,zv,z1,z2,z3⟩:=zeroOf_spec (ν:=ν) hz
     rw [hie] at z1
     cases z1
     have lz:zv.cells.size=ie.size:=by rw [← Array.length_toList,vals_length z3,q1]
     obtain⟨w',h2,h3⟩:=storeCells_run (P:=P) h hp (rep_vals z3 len) hs
     refine⟨w',h2,?_⟩
     obtain⟨len',rfl⟩:∃ k,len=k+1:=⟨len-1,by omega⟩
     simp only [Builtin.clear_,h0,List.getElem?_toArray,List.getElem?_cons_zero,Sem.run_bind,run_underlying hu,Result.andThen_ok,zeroValue,typeInfo,run_program,hie,Sem.run_pure,z2,zeroCells_eq (len'+1) (show 0<zv.cells.size by omega),List.toList_toArray,h3]
   ·cases h
  ·cases h
 ·rename_i t tl id hts
  obtain⟨sv,l1,hsv,hl1,rfl⟩:=vals_cons.1 hv
  simp only [vals,si] at hl1
  subst hl1
  have h0:ts[0]?=some t:=by rw [← Array.getElem?_toList,hts];rfl
  obtain⟨p,hp,rfl⟩:=mp_val hsv
  split at h
  ·rename_i es clock d hg hu
   simp only [si] at h
   subst h
   obtain⟨p',l,hp',hl,hb⟩:=map_at hm hg
   rw [hp] at hp'
   cases hp'
   have g1:=run_getMap (P:=P) hb
   refine⟨_,mapSet hs hg hp (es':=[]) (l':=[]) rfl clock,?_⟩
   simp only [Builtin.clear_,h0,List.getElem?_toArray,List.getElem?_cons_zero,Sem.run_bind,run_underlying hu,Result.andThen_ok,g1,run_setMap' hb,Sem.run_pure]
  ·cases h
 ·cases h
end
section
variable {δ : List Deferred} {P : Program} {G : Nat → Option (List Value)} {ν : Nu} {N : Nat} {S : AE} {a : Act} {m m' : AM} {w w0 : World} {L : List Asn}
theorem ofInt_val (k:IntKind) (z:Int):AV.val ν (ofInt k z)=some (.int k z):=by cases z<;>rfl
theorem bytesOf_spec:∀ {cs:List AV}{bs:List UInt8},convA.bytesOf cs=some bs→vals ν cs=some (bs.map fun b=>Value.int .u8 (b.toNat:Int))
 | [],bs,h=>by simp only [convA.bytesOf,si] at h;subst h;rfl
 | x::l,bs,h=>by
  unfold convA.bytesOf at h
  split at h
  ·rename_i n
   cases hb:Nat.ble n 255 with
   | false=>rw [hb] at h;cases h
   | true =>
    rw [hb] at h
    have hb:=ble_true hb
    simp only [cond_true] at h
    split at h
    ·rename_i cs hcs
     simp only [si] at h
     subst h
     refine vals_cons_mk ?_ (bytesOf_spec hcs)
     have:(UInt8.ofNat n).toNat=n:=by
      rw [UInt8.toNat_ofNat']
      omega
     simp only [AV.val,this]
     rfl
    ·cases h
  ·cases h
theorem run_strBytes (e:TypeId) (s:ByteArray) (hs:s.size≤1000000000) (w:World):∃ cap,s.size≤cap∧cap≤9223372036854775807∧(Conv.stringToBytes e s).run P w=.ok (.slice (some ⟨w.heap.size,0,none⟩) s.size cap)
 { w with drawn:=w.drawn+1,heap:=w.heap.push (.cells ((s.toList.map fun b=>Value.int .u8 (b.toNat:Int))++List.replicate (cap-s.size) (Value.int .u8 0)).toArray e (((s.toList.map fun b=>Value.int .u8 (b.toNat:Int))++List.replicate (cap-s.size) (Value.int .u8 0)).length,((s.toList.map fun b=>Value.int .u8 (b.toNat:Int))++List.replicate (cap-s.size) (Value.int .u8 0)).length+1)) }:=by
 refine⟨grownCap w s.size 0 e,grownCap_ge w s.size 0 e,grownCap_le_maxLen w s.size 0 e (by simp only [maxLen];omega),?_⟩
 have harr:(s.data.map fun b=>(Value.int .u8 (b.toNat:Int)))++Array.replicate (grownCap w s.size 0 e-s.size) (Value.int .u8 0)=((s.toList.map fun b=>Value.int .u8 (b.toNat:Int))++List.replicate (grownCap w s.size 0 e-s.size) (Value.int .u8 0)).toArray:=by
  apply Array.ext'
  simp [ByteArray.toList_eq]
 have hch:(choose (.appendCap s.size 0 e)).run P w=.ok (grownCap w s.size 0 e) { w with drawn:=w.drawn+1 }:=by
  simp [choose,Sem.run,Question.forced,grownCap]
 simp only [Conv.stringToBytes,Sem.run_bind,hch,Result.andThen_ok]
 rw [harr,run_newRow]
 generalize ((s.toList.map fun b=>Value.int .u8 (b.toNat:Int))++List.replicate (grownCap w s.size 0 e-s.size) (Value.int .u8 0))=l
 have hsh:World.shape? { w with drawn:=w.drawn+1,heap:=w.heap.push (.cells l.toArray e) } w.heap.size=some (e,l.length):=by
  simp [World.shape?]
 have hfz:World.freeze { w with drawn:=w.drawn+1,heap:=w.heap.push (.cells l.toArray e) } { block:=w.heap.size,off:=l.length } 1={ w with drawn:=w.drawn+1,heap:=w.heap.push (.cells l.toArray e (l.length,l.length+1)) }:=by
  simp only [World.freeze,Nat.one_ne_zero,if_false]
  congr 1
  apply Array.ext_getElem?
  intro k
  rw [Array.getElem?_modify]
  by_cases hk:w.heap.size=k
  ·subst hk;simp
  ·rw [if_neg hk]
   simp only [Array.getElem?_push]
   rw [if_neg (fun e=>hk e.symm),if_neg (fun e=>hk e.symm)]
 simp only [Result.andThen_ok,markStringish,shape,freeze,bind,Sem.bind,Sem.run,hsh,hfz,pure]
theorem convA_sound (hs:St w0 (Mem ν m::L) w){o:Oper}{src dst:TypeId}{x:Operand}(ho:o.op=.convert src dst x){ρ:Operand→Value}{xa av:AV}(hx:xa.val ν=some (ρ x)) (h:convA P m src dst xa=some (av,m')):Eff P ν w0 L m' (execOp ρ o) w av:=by
 have hm:=memOK hs
 have key:∀ v,(convert src dst (ρ x)).run P w=.ok v w→(execOp ρ o).run P w=.ok (.value v) w:=by
  intro v hv
  simp only [execOp,ho,Sem.run_bind,hv,Result.andThen_ok,Sem.run_pure]
 unfold convA at h
 split at h
 ·rename_i d k k' n hu1 hu2
  simp only [AV.val,si] at hx
  have hc:(convert src dst (ρ x)).run P w=.ok (.int k (k.wrap (n:Int))) w:=by
   rw [← hx]
   simp only [convert,Sem.run_bind,run_underlying hu1,run_underlying hu2,Result.andThen_ok,Conv.intToInt]
   rfl
  split at h
  ·rename_i b hb
   simp only [si,Prod.mk.injEq] at h
   obtain⟨rfl,rfl⟩:=h
   exact⟨_,ν,w,Nu.le_refl ν,intN_spec hb,hs,.inl (key _ hc)⟩
  ·simp only [si,Prod.mk.injEq] at h
   obtain⟨rfl,rfl⟩:=h
   exact⟨_,ν,w,Nu.le_refl ν,ofInt_val _ _,hs,.inl (key _ hc)⟩
 ·rename_i d k k' n hu1 hu2
  simp only [AV.val,si] at hx
  simp only [si,Prod.mk.injEq] at h
  obtain⟨rfl,rfl⟩:=h
  refine⟨_,ν,w,Nu.le_refl ν,ofInt_val _ _,hs,.inl (key _ ?_)⟩
  rw [← hx]
  simp only [convert,Sem.run_bind,run_underlying hu1,run_underlying hu2,Result.andThen_ok,Conv.intToInt]
  rfl
 ·rename_i q1 q2 xa e hu1 hu2
  split at h
  ·rename_i id off len cap kn hue
   split at h
   ·rename_i cs hcs
    split at h
    ·rename_i bs hbs
     simp only [si,Prod.mk.injEq] at h
     obtain⟨rfl,rfl⟩:=h
     obtain⟨p,c,hp,hv,_⟩:=sl_val hx
     have hb:=bytesOf_spec (ν:=ν) hbs
     unfold readsA at hcs
     simp only at hcs
     split at hcs
     ·rename_i cs0 hc0
      obtain⟨p',vs,rest,T,fr,h1,h2,h3,h4⟩:=cellsAt_spec hm hc0
      rw [hp] at h1
      cases h1
      obtain⟨h5,h6⟩:=vals_cut hcs h2
      rw [hb] at h5
      simp only [si] at h5
      have hlen:bs.length=len:=by
       have:=congrArg List.length h5
       simp only [List.length_map,List.length_take,List.length_drop] at this
       omega
      refine⟨_,ν,w,Nu.le_refl ν,rfl,hs,.inl (key _ ?_)⟩
      rw [hv,← hlen]
      refine run_convert_bytes_back w src dst e _ c bs hu1 hue hu2 fun j hj=>?_
      rw [add_mk,cell_of h3 (by omega)]
      have h7:((vs.drop off).take (len*1))[j]?=(bs.map fun b=>Value.int .u8 (b.toNat:Int))[j]?:=by rw [h5]
      rw [List.getElem?_take,if_pos (by omega),List.getElem?_drop] at h7
      rw [h7]
      simp [hj]
     ·cases hcs
    ·cases h
   ·cases h
  ·rename_i id o1 o2 sub hue
   simp only [si,Prod.mk.injEq] at h
   obtain⟨rfl,rfl⟩:=h
   obtain⟨p,off,c,hp,hv⟩:=se_val hx
   refine⟨_,ν,w,Nu.le_refl ν,rfl,hs,.inl (key _ ?_)⟩
   rw [hv]
   exact run_convert_bytes_back w src dst e _ c [] hu1 hue hu2 fun j hj=>by simp at hj
  ·rename_i l c hue
   simp only [AV.val,si] at hx
   simp only [si,Prod.mk.injEq] at h
   obtain⟨rfl,rfl⟩:=h
   refine⟨_,ν,w,Nu.le_refl ν,rfl,hs,.inl (key _ ?_)⟩
   rw [← hx]
   simp only [convert,Sem.run_bind,run_underlying hu1,run_underlying hu2,Result.andThen_ok,run_underlying hue,Conv.bytesToString]
   rfl
  ·cases h
 ·rename_i e s hu1 hu2
  split at h
  ·rename_i hue
   simp only [AV.val,si] at hx
   cases hbs:Nat.ble s.size 1000000000 with
   | false=>rw [hbs] at h;cases h
   | true =>
   rw [hbs] at h
   simp only [cond_true,si,growA,Prod.mk.injEq] at h
   obtain⟨rfl,rfl⟩:=h
   obtain⟨cap,hc,hcm,hr⟩:=run_strBytes (P:=P) e s (ble_true hbs) w
   have key2:∀ l:List UInt8,vals ν (l.map fun b=>AV.num .u8 b.toNat)=some (l.map fun b=>Value.int .u8 (b.toNat:Int)):=by
    intro l
    induction l with
    | nil=>rfl
    | cons b l ih=>exact vals_cons_mk rfl ih
   have hsz:s.data.toList.length=s.size:=Array.length_toList
   simp only [ByteArray.toList_eq] at hr
   obtain⟨k1,k2⟩:=newBuf (w:={ w with drawn:=w.drawn+1 }) hs.drew (key2 s.data.toList) e (z:=1) (cap:=cap) (rest:=List.replicate (cap-s.size) (Value.int .u8 0)) (by rw [List.length_append,List.length_map,hsz,List.length_replicate];omega)
    (((s.data.toList.map fun b=>Value.int .u8 (b.toNat:Int))++List.replicate (cap-s.size) (Value.int .u8 0)).length,((s.data.toList.map fun b=>Value.int .u8 (b.toNat:Int))++List.replicate (cap-s.size) (Value.int .u8 0)).length+1) (fun i h1 h2=>by omega) hcm
   refine⟨_,_,_,k2,slU_mk (Nu.add_self _ _ _) hc (by simp),k1,.inl ?_⟩
   have:(convert src dst (ρ x)).run P w=(Conv.stringToBytes e s).run P w:=by
    rw [← hx]
    simp only [convert,Sem.run_bind,run_underlying hu1,run_underlying hu2,Result.andThen_ok,run_underlying hue]
   simp only [execOp,ho,Sem.run_bind,this,hr,Result.andThen_ok,Sem.run_pure]
  ·cases h
 ·rename_i s hu1 hu2
  simp only [AV.val,si] at hx
  simp only [si,Prod.mk.injEq] at h
  obtain⟨rfl,rfl⟩:=h
  refine⟨_,ν,w,Nu.le_refl ν,rfl,hs,.inl (key _ ?_)⟩
  rw [← hx]
  simp only [convert,Sem.run_bind,run_underlying hu1,run_underlying hu2,Result.andThen_ok,Sem.run_pure]
 ·cases h
def GOK (G:Nat→Option (List Value)) (w0:World) (L:List Asn):Prop:=∀ ν m w,St w0 (Mem ν m::L) w→Glob G w
def CallOK (P:Program) (G:Nat→Option (List Value)) (call:FuncId→List AV→AM→R2):Prop:=∀ f asx m r m' ν vs w w0 L,enters P f=true→call f asx m=some (r,m')→GOK G w0 L→vals ν asx=some vs→St w0 (Mem ν m::L) w →
 Calls P f vs.toArray w (Ret fun v w'=>∃ ν',ν.le ν'∧r.val ν'=some v∧St w0 (Mem ν' m'::L) w')
theorem enters_spec {f:FuncId}(h:enters P f=true) (args:Array Value) (w:World):(callFunc f args).run P w=.ok (.enter f args) w:=by
 unfold enters at h
 split at h
 ·rename_i fn hf
  cases hn : (fn.name == "runtime.NumGoroutine") with
  | true=>rw [hn] at h;cases h
  | false =>
   rw [hn] at h
   simp only [cond_false] at h
   obtain⟨b,hb⟩:=Option.isSome_iff_exists.1 h
   simp [callFunc,hf,hn,hb,Sem.run_bind]
   simpa using hn
 ·cases h
theorem callee_spec (hf:FitsA δ ν N S a){x:Operand}{args:Array Operand}{f:FuncId}{asx:List AV}(h:callee S x args.toList=some (f,asx)) :
 ∃ (fst cap:Array Value) (vs:List Value),a.eval x=.func (.func f) fst cap∧args.map a.eval=vs.toArray∧vals ν asx=some (fst.toList++vs++cap.toList):=by
 unfold callee at h
 split at h
 ·rename_i bs hbs
  have h1:=hf.ops hbs
  have h4:args.map a.eval=(args.toList.map a.eval).toArray:=by apply Array.ext';simp
  split at h
  ·rename_i f' fst cap hx
   obtain⟨v,hv,ex⟩:=hf.op hx
   simp only [AV.val,si] at hv
   simp only [si,Prod.mk.injEq] at h
   obtain⟨rfl,rfl⟩:=h
   exact⟨fst,cap,_,by rw [ex,hv],h4,vals_append (vals_append (lifts_vals ν _) h1) (lifts_vals ν _)⟩
  ·rename_i f' fst cap hx
   obtain⟨v,hv,ex⟩:=hf.op hx
   obtain⟨us,ws,h2,h3,rfl⟩:=fn_val hv
   simp only [si,Prod.mk.injEq] at h
   obtain⟨rfl,rfl⟩:=h
   exact⟨us.toArray,ws.toArray,_,ex,h4,by simpa using vals_append (vals_append h2 h1) h3⟩
  ·cases h
 ·cases h
theorem rd_some {r:Option AV}{av:AV}(h:rd m r=some (av,m')):r=some av∧m'=m:=by
 cases r with
 | none=>cases h
 | some b=>simp only [rd,si,Prod.mk.injEq] at h;exact⟨by rw [h.1],h.2.symm⟩
theorem on1r_some {x:Option AV}{f:AV→R2}{r:AV×AM}(h:on1r x f=some r):∃ b,x=some b∧f b=some r:=by
 cases x with
 | none=>cases h
 | some b=>exact⟨b,rfl,h⟩
theorem wrapChk_run {P:Program}{w:World}{ts:Array TypeId}{t:TypeId}{ad:Addr}{x y:ByteArray}:(Builtin.ssaWrapNilChk_ ts t #[.pointer (some ad),.string x,.string y]).run P w=.ok (.pointer (some ad)) w:=rfl
theorem methodA_run (hm:MemOK ν m w) (hG:Glob G w){t:TypeId}{b r:AV}{v:Value}{name:String}{f:FuncId}(hb:b.val ν=some v) (h:methodA P G m t b name=some (f,r)):∃ rv,r.val ν=some rv∧∀ k,(method (k+1) t v name).run P w=.ok (f,rv) w:=by
 unfold methodA at h
 split at h
 ·rename_i ti hti
  split at h
  ·rename_i mt hmt
   split at h
   ·rename_i f' pr e hpath hfun hu
    have hfind:ti.methods.find? (fun x=>x.name == name)=some mt:=by rw [← Array.find?_toList];exact hmt
    have hpe:mt.path.isEmpty=true:=by
     have:mt.path=#[]:=by apply Array.ext';simpa using hpath
     rw [this];rfl
    have run0 : ∀ (rv : Value), (receiverAt t (.val v) pr (some ((name.splitOn ".").getLastD name))).run P w = .ok rv w → ∀ k, (method (k + 1) t v name).run P w = .ok (f', rv) w := by
     intro rv hr k
     unfold method
     simp only [Sem.run_bind,typeInfo,run_program,hti,Result.andThen_ok,Sem.run_pure,hfind,hpath,follow,hfun,hpe,if_true,hr]
    split at h
    ·simp only [si,Prod.mk.injEq] at h
     obtain⟨rfl,rfl⟩:=h
     refine⟨v,hb,run0 v ?_⟩
     simp only [receiverAt,Sem.run_bind,run_underlying hu w,Result.andThen_ok,Place.get,Sem.run_pure]
    ·rename_i id off
     split at h
     ·rename_i x hx
      simp only [si,Prod.mk.injEq] at h
      obtain⟨rfl,rfl⟩:=h
      obtain⟨ad,rv,rfl,h2,h3⟩:=loadA_sound hm hG hb hx
      refine⟨rv,h2,run0 rv ?_⟩
      simp only [receiverAt,Sem.run_bind,run_underlying hu w,Result.andThen_ok,Place.get,Sem.run_pure,wrapChk_run,strVal,asAddr,h3]
     ·cases h
    ·cases h
   ·cases h
  ·cases h
 ·cases h
theorem effOp_wp {call:FuncId→List AV→AM→R2}(hc:CallOK P G call) (hG:GOK G w0 L) (hf:FitsA δ ν N S a) (hs:St w0 (Mem ν m::L) w){o:Oper}{av:AV}(h:effOp P G call m S o=some (av,m'))
 {K:Act→World→Prop}{Q:Exit→Act→World→Prop}(hK:∀ v ν' w',ν.le ν'→av.val ν'=some v→St w0 (Mem ν' m'::L) w'→K (a.put o.dst v) w'):o.wp P a w K Q:=by
 have hm:=memOK hs
 have fin:Eff P ν w0 L m' (execOp a.eval o) w av→o.wp P a w K Q:=by
  rintro⟨v,ν',w',h1,h2,h3,h4|⟨h4,rfl⟩⟩
  ·unfold Oper.wp;rw [h4];exact hK v ν' w' h1 h2 h3
  ·unfold Oper.wp;rw [h4];exact hK undef ν' w' h1 h2 h3
 have finR:(∃ v,av.val ν=some v∧(execOp a.eval o).run P w=.ok (.value v) w)→m'=m→o.wp P a w K Q:=by
  rintro⟨v,h1,h2⟩ rfl
  exact fin ⟨v,ν,w,Nu.le_refl ν,h1,hs,.inl h2⟩
 have op1:∀ {x:Operand}{b:AV},opnd S x=some b→b.val ν=some (a.eval x):=by
  intro x b hb
  obtain⟨v,h1,h2⟩:=hf.op hb
  rw [h2];exact h1
 have fb:∀ {c:Call}{b:Builtin}{asx:List AV},o.op=.call c→c.callee=.builtin b→opnds S c.args.toList=some asx→∃ (vs:List Value) (cs:Array Bool),vals ν asx=some vs∧(execOp a.eval o).run P w=(builtin b c.argTypes o.type cs vs.toArray).run P w:=fun h1 h2 h3=>run_bA hf h1 h2 h3 w
 unfold effOp at h
 split at h
 ·rename_i op t x y t' ho
  obtain⟨h,e⟩:=rd_some h
  exact finR (binOpA_sound hf ho h w) e
 ·rename_i t x ho
  obtain⟨h,e⟩:=rd_some h
  obtain⟨b,hb,h⟩:=on1_some h
  obtain⟨ad,v,h1,h2,h3⟩:=loadA_sound hm (hG ν m w hs) (op1 hb) h
  exact finR ⟨v,h2,run_load ho h1 h3⟩ e
 ·rename_i t x y ho;exact fin (storeOp_sound hf hs ho h)
 ·rename_i t ho;exact fin (allocOp_sound hs ho h)
 ·rename_i t x ho;exact fin (boxOp_sound hf hs ho h)
 ·rename_i t len parts ho;exact fin (buildSliceA_sound hf hs ho h)
 ·rename_i t r ho;exact fin (makeMapOp_sound hs ho h)
 ·rename_i t l c ho;exact fin (makeSliceOp_sound hf hs ho h)
 ·rename_i t x k v ho;exact fin (updOp_sound hf hs (.inl ho) h)
 ·rename_i t x k v ho;exact fin (updOp_sound hf hs (.inr ho) h)
 ·rename_i t x k ho;exact fin (meOp_sound hf hs ho h)
 ·rename_i t x st v ho;exact fin (esOp_sound hf hs ho h)
 ·rename_i t x ho
  obtain⟨b,hb,h⟩:=on1r_some h
  exact fin (rangeA_sound hs ho (op1 hb) h)
 ·rename_i x str ho
  obtain⟨b,hb,h⟩:=on1r_some h
  exact fin (nextA_sound hs ho (op1 hb) h)
 ·rename_i src dst x ho
  obtain⟨b,hb,h⟩:=on1r_some h
  exact fin (convA_sound hs ho (op1 hb) h)
 ·rename_i c ho
  split at h
  ·rename_i b hcb
   unfold builtinOp at h
   split at h
   ·split at h
    ·rename_i asx has
     obtain⟨vs,cs,h1,h2⟩:=fb ho hcb has
     obtain⟨v,ν',w',k1,k2,k3,k4⟩:=appendA_sound (P:=P) (ty:=o.type) hs h1 h
     refine fin ⟨v,ν',w',k1,k2,k3,.inl ?_⟩
     rw [h2]
     simp only [builtin,Sem.run_bind,k4,Result.andThen_ok,Sem.run_pure]
    ·cases h
   ·split at h
    ·rename_i asx has
     obtain⟨vs,cs,h1,h2⟩:=fb ho hcb has
     obtain⟨v,w',k2,k3,k4⟩:=copyA_sound (P:=P) (ty:=o.type) hs h1 h
     refine fin ⟨v,ν,w',Nu.le_refl ν,k2,k3,.inl ?_⟩
     rw [h2]
     simp only [builtin,Sem.run_bind,k4,Result.andThen_ok,Sem.run_pure]
    ·cases h
   ·split at h
    ·rename_i asx has
     obtain⟨vs,cs,h1,h2⟩:=fb ho hcb has
     split at h
     ·rename_i m2 hd
      simp only [si,Prod.mk.injEq] at h
      obtain⟨rfl,rfl⟩:=h
      obtain⟨w',k3,k4⟩:=deleteA_sound (P:=P) (ty:=o.type) hs h1 hd
      refine fin ⟨_,ν,w',Nu.le_refl ν,rfl,k3,.inl ?_⟩
      rw [h2]
      simp only [builtin,Sem.run_bind,k4,Result.andThen_ok,Sem.run_pure]
     ·cases h
    ·cases h
   ·split at h
    ·rename_i asx has
     obtain⟨vs,cs,h1,h2⟩:=fb ho hcb has
     split at h
     ·rename_i m2 hd
      simp only [si,Prod.mk.injEq] at h
      obtain⟨rfl,rfl⟩:=h
      obtain⟨w',k3,k4⟩:=clearA_sound (P:=P) (ty:=o.type) hs h1 hd
      refine fin ⟨_,ν,w',Nu.le_refl ν,rfl,k3,.inl ?_⟩
      rw [h2]
      simp only [builtin,Sem.run_bind,k4,Result.andThen_ok,Sem.run_pure]
     ·cases h
    ·cases h
   ·obtain⟨h,e⟩:=rd_some h
    exact finR (readOp_sound hf hm (hG ν m w hs) h) e
  ·rename_i x hcx
   unfold callOp at h
   split at h
   ·rename_i f asx hcal
    cases hen:enters P f with
    | false=>rw [hen] at h;cases h
    | true =>
     rw [hen] at h
     simp only [cond_true] at h
     obtain⟨fst,cap,vs,h1,h2,h3⟩:=callee_spec hf hcal
     have hcalls:=hc f asx m av m' ν _ w w0 L hen h hG h3 hs
     have hrun:(execOp a.eval o).run P w=.ok (.enter f (fst.toList++vs++cap.toList).toArray) w:=by
      generalize a.eval=ρ at h1 h2 ⊢
      have h5:fst++(vs.toArray++cap)=(fst.toList++(vs++cap.toList)).toArray:=by
       apply Array.ext'
       simp
      simp [execOp,ho,resolve,hcx,h1,h2,Deferred.ofValue,invoke,go_sem]
      rw [h5]
      exact enters_spec hen _ _
     unfold Oper.wp
     rw [hrun]
     refine Calls.mono hcalls fun e w' he=>?_
     cases e with
     | returned v =>
      obtain⟨ν',k1,k2,k3⟩:=he
      exact hK v ν' w' k1 k2 k3
     | panicked c=>exact he.elim
     | outgrown=>exact he.elim
   ·cases h
  ·rename_i recv name hcx
   unfold callI at h
   split at h
   ·rename_i t b asx hx hargs
    split at h
    ·rename_i f r hmeth
     cases hen:enters P f with
     | false=>rw [hen] at h;cases h
     | true =>
      rw [hen] at h
      simp only [cond_true] at h
      obtain⟨u,hu1,ex⟩:=hf.op hx
      obtain⟨v,hv,rfl⟩:=ifc_val hu1
      obtain⟨rv,hr1,hr2⟩:=methodA_run hm (hG ν m w hs) hv hmeth
      have hvs:=hf.ops hargs
      have hcalls:=hc f (r::asx) m av m' ν (rv::c.args.toList.map a.eval) w w0 L hen h hG (vals_cons_mk hr1 hvs) hs
      have hrun:(execOp a.eval o).run P w=.ok (.enter f (rv::c.args.toList.map a.eval).toArray) w:=by
       have h5:#[rv]++c.args.map a.eval=(rv::c.args.toList.map a.eval).toArray:=by
        apply Array.ext'
        simp
       have h6:(#[Value.iface t v]++c.args.map a.eval).extract 1 (#[Value.iface t v]++c.args.map a.eval).size=c.args.map a.eval:=by
        apply Array.ext'
        simp
        first|done|exact List.take_of_length_le (by simp)
       have h7:(#[Value.iface t v]++c.args.map a.eval)[0]?=some (.iface t v):=by first|rfl|simp [Array.getElem?_append]|(rw [Array.getElem?_append_left (by simp)];rfl)
       have hm1:(method (P.types.size+Made.depth) t v name).run P w=.ok (f,rv) w:=hr2 (P.types.size+99)
       simp only [execOp,ho,resolve,hcx,ex,Sem.run_bind,Sem.run_pure,Result.andThen_ok,invoke,h7,h6,callMethod,run_program,hm1]
       rw [h5]
       exact enters_spec hen _ _
      unfold Oper.wp
      rw [hrun]
      refine Calls.mono hcalls fun e w' he=>?_
      cases e with
      | returned v =>
       obtain⟨ν',k1,k2,k3⟩:=he
       exact hK v ν' w' k1 k2 k3
      | panicked c=>exact he.elim
      | outgrown=>exact he.elim
    ·cases h
   ·cases h
 ·obtain⟨h,e⟩:=rd_some h
  exact finR (readOp_sound hf hm (hG ν m w hs) h) e
end
end Go.Ev
