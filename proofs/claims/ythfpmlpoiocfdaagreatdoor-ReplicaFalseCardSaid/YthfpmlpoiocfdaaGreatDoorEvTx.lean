/-
  Several texts in one: EvA, EvB, EvC.
-/
import Derived.Test.YthfpmlpoiocfdaaGreatDoorSxTx
namespace Go.Ev
open Go.Sx
set_option linter.unusedVariables false
inductive Tr (α:Type) where
 | nil
 | node (v:Option α) (a b c d:Tr α)
namespace Tr
variable {α : Type}
noncomputable def pick {β:Type}(i:Nat) (a b c d:β):β:=Nat.rec a (λi _=>Nat.rec b (λi _=>Nat.rec c (λ_ _=>d) i) i) i
noncomputable def get (t:Tr α):Nat->Option α :=
 Tr.rec (λ_=>none) (λv _ _ _ _ g0 g1 g2 g3 n=>Nat.rec v (λk _=>pick (Nat.mod k 4) (g0 (Nat.div k 4)) (g1 (Nat.div k 4)) (g2 (Nat.div k 4)) (g3 (Nat.div k 4))) n) t
noncomputable def put (d:Nat):Tr α->Nat->Option α->Tr α :=
 Nat.rec (λt _ _=>t) (λ_ ih t n x=>Tr.rec
  (Nat.rec (.node x .nil .nil .nil .nil) (λk _=>pick (Nat.mod k 4) (.node none (ih .nil (Nat.div k 4) x) .nil .nil .nil) (.node none .nil (ih .nil (Nat.div k 4) x) .nil .nil) (.node none .nil .nil (ih .nil (Nat.div k 4) x) .nil) (.node none .nil .nil .nil (ih .nil (Nat.div k 4) x))) n)
  (λv a b c d _ _ _ _=>Nat.rec (.node x a b c d) (λk _=>pick (Nat.mod k 4) (.node v (ih a (Nat.div k 4) x) b c d) (.node v a (ih b (Nat.div k 4) x) c d) (.node v a b (ih c (Nat.div k 4) x) d) (.node v a b c (ih d (Nat.div k 4) x))) n) t) d
noncomputable def set (t:Tr α) (n:Nat) (x:Option α):Tr α:=put (n+1) t n x
end Tr
inductive AV where
 | num (k:IntKind) (n:Nat)
 | bool (b:Bool)
 | flat (v:Value)
 | ptr (id off:Nat)
 | sl (id off len cap:Nat) (kn:Bool)
 | se (id off off' sub:Nat)
 | mp (id:Nat)
 | fn (f:FuncId) (fst cap:List AV)
 | agg (cs:List AV)
 | qU (cs:List AV)
 | yl (id:Nat)
 | LZ (t:TypeId) (a:AV)
inductive eK where
 | cells (cs:List AV)
 | buf (cs:List AV) (esz:Nat)
 | map (es:List (Value×AV×Nat)) (clock:Nat)
 | iter (lk since:Nat) (seen:List Nat) (last:Nat)
 | Nl (s:ByteArray) (pos:Nat)
 | loop (f N:Nat) (S:Tr AV) (ps:List Tmp) (assign body:Code) (st:Nat) (pend:Option Code)
structure AM where
 bl:Tr eK
 next:Nat
abbrev AE:=Tr AV
noncomputable section
def AM.get (m:AM) (id:Nat):Option eK:=m.bl.get id
def AM.set (m:AM) (id:Nat) (b:eK):AM:=⟨m.bl.set id (some b),m.next⟩
def AM.del (m:AM) (id:Nat):AM:=⟨m.bl.set id none,m.next⟩
def AM.new (m:AM) (b:eK):AM:=⟨m.bl.set m.next (some b),m.next+1⟩
end
def over {α:Type}:List α->List α->List α
 | [],cs=>cs
 | _::_,[]=>[]
 | v::vs,_::cs=>v::over vs cs
def aV {α:Type}:Nat->List α->List α->List α
 | 0,vs,cs=>over vs cs
 | _+1,_,[]=>[]
 | n+1,vs,c::cs=>c::aV n vs cs
def ofInt (k:IntKind):Int->AV
 | .ofNat n=>.num k n
 | .negSucc n=>.flat (.int k (.negSucc n))
def lift:Value->AV
 | .int k n=>ofInt k n
 | .bool b=>.bool b
 | v=>.flat v
def cellsOf:AV->List AV
 | .flat v=>match v with
  | .agg cs=>cs.toList.map lift
  | v=>[.flat v]
 | .agg cs=>cs
 | a=>[a]
def KG:AV->Option Value
 | .flat v=>some v
 | .num k n=>some (.int k (.ofNat n))
 | .bool b=>some (.bool b)
 | _=>none
def Hh:List AV->Option (List Value)
 | []=>some []
 | a::l=>match KG a with
  | some v=>match Hh l with
   | some vs=>some (v::vs)
   | none=>none
  | none=>none
def mw:AV->Option Value
 | .flat v=>some v
 | .num k n=>some (.int k (.ofNat n))
 | .bool b=>some (.bool b)
 | .agg cs=>match Hh cs with
  | some vs=>some (.agg vs.toArray)
  | none=>none
 | _=>none
def NZ:AV->Bool
 | .flat v=>qZ v
 | .agg _=>false
 | .qU _=>false
 | _=>true
def kM:List AV->Bool
 | []=>true
 | a::l=>bif NZ a then kM l else false
noncomputable section
variable (P : Program) (G : Nat -> Option (List Value))
def cC (S:AE):Operand->Option AV
 | .tmp t=>S.get t
 | .const v=>some (lift v)
 | .global g=>some (.flat (.pointer (some ⟨g,0,none⟩)))
 | .func f=>some (.flat (.func (.func f) #[] #[]))
def jX (S:AE):List Operand->Option (List AV)
 | []=>some []
 | x::l=>match cC S x with
  | some a=>match jX S l with
   | some asx=>some (a::asx)
   | none=>none
  | none=>none
def Hi (S:AE) (x:Operand):Value:=match cC S x with
 | some a=>match mw a with
  | some v=>v
  | none=>undef
 | none=>undef
def rR (S:AE):List Operand->Bool
 | []=>true
 | x::l=>match cC S x with
  | some a=>match mw a with
   | some _=>rR S l
   | none=>false
  | none=>false
def oK (S:AE) (o:Oper):Option AV :=
 bif nT o.op then none else
 bif rR S o.op.operands.toList then
  match nS P (execOp (Hi S) o) [] with
  | some (ns,v)=>match ns with
   | []=>some (lift v)
   | _=>none
  | none=>none
 else none
def nf (t:TypeId):Option (Option Nat) :=
 match P.underlying t with
 | some (.struct _)=>match P.info? t with|some i=>some (some i.size)|none=>none
 | some (.array _ _)=>match P.info? t with|some i=>some (some i.size)|none=>none
 | some _=>some none
 | none=>none
def KH (cs:List AV) (off n:Nat):Option (List AV) :=
 bif Nat.ble (off+n) cs.length then some ((cs.drop off).take n) else none
def rS (t:TypeId) (cs:List AV) (off:Nat):Option AV :=
 match nf P t with
 | some (some n)=>match KH cs off n with|some l=>some (.agg l)|none=>none
 | some none=>cs[off]?
 | none=>none
def kQ (m:AM) (id:Nat):Option (List AV) :=
 match m.get id with
 | some (.cells cs)=>some cs
 | some (.buf cs _)=>some cs
 | _=>none
def qg (m:AM) (t:TypeId) (a:AV):Option AV :=
 match a with
 | .ptr id off=>match kQ m id with
  | some cs=>rS P t cs off
  | none=>none
 | .flat (.pointer (some ⟨g,off,none⟩))=>match G g with
  | some vs=>rS P t (vs.map lift) off
  | none=>none
 | _=>none
def Ad (m:AM) (id:Nat) (f:List AV->List AV):Option AM :=
 match m.get id with
 | some (.cells cs)=>some (m.set id (.cells (f cs)))
 | some (.buf cs z)=>some (m.set id (.buf (f cs) z))
 | _=>none
def jf (m:AM) (id off:Nat) (vs:List AV):Option AM :=
 match kQ m id with
 | some cs=>bif Nat.ble (off+vs.length) cs.length then (bif kM vs then Ad m id (aV off vs) else none) else none
 | none=>none
def KI (m:AM) (t:TypeId) (a v:AV):Option AM :=
 match a with
 | .ptr id off=>match P.info? t with
  | some i=>bif Nat.beq (cellsOf v).length i.size then jf m id off (cellsOf v) else none
  | none=>none
 | _=>none
def zeroOf (t:TypeId):Option (List AV) :=
 match P.info? t with
 | some i=>match i.zero with
  | some z=>some (cellsOf (lift z))
  | none=>none
 | none=>none
def uu (place:Nat->Option (Nat×Nat)) (cells:List AV):List (Nat×AV)->Option (List AV)
 | []=>some cells
 | (i,v)::rest =>
  match place i with
  | none=>none
  | some (off,size) =>
   bif Nat.beq (cellsOf v).length size && Nat.ble (off+(cellsOf v).length) cells.length then uu place (aV off (cellsOf v) cells) rest else none
def jL (S:AE):List (Nat×Operand)->Option (List (Nat×AV))
 | []=>some []
 | (i,x)::l=>match cC S x with
  | some a=>match jL S l with
   | some asx=>some ((i,a)::asx)
   | none=>none
  | none=>none
def places (fs:List Field):Option (List (Nat×Nat)) :=
 match fs with
 | []=>some []
 | f::l=>match P.info? f.type with
  | some i=>match places l with
   | some ps=>some ((f.offset,i.size)::ps)
   | none=>none
  | none=>none
def Bt (S:AE) (t:TypeId) (parts:List (Nat×Operand)):Option AV :=
 match zeroOf P t,jL S parts,P.underlying t with
 | some z,some ps,some (.struct fields)=>match places P fields.toList with
  | some pl=>match uu (pl[·]?) z ps with
   | some cs=>some (.agg cs)
   | none=>none
  | none=>none
 | some z,some ps,some (.array _ e)=>match P.info? e with
  | some ie=>match uu (λi=>some (i*ie.size,ie.size)) z ps with
   | some cs=>some (.agg cs)
   | none=>none
  | none=>none
 | _,_,_=>none
def rep {α:Type}:Nat->List α->List α
 | 0,_=>[]
 | n+1,z=>z++rep n z
def iU (S:AE) (t:TypeId) (len:Nat) (parts:List (Nat×Operand)):Option (List AV) :=
 match P.underlying t with
 | some (.slice e)=>match P.info? e,zeroOf P e,jL S parts with
  | some ie,some z,some ps =>
   bif Nat.ble (len*ie.size) 16777216 && Nat.beq z.length ie.size && Nat.ble 1 ie.size then
    uu (λi=>some (i*ie.size,ie.size)) (rep len z) ps
   else none
  | _,_,_=>none
 | _=>none
def lU (S:AE) (m:AM) (t:TypeId) (len:Nat) (parts:List (Nat×Operand)):Option (AV×AM) :=
 match iU P S t len parts with
 | some cs=>some (.sl m.next 0 len len true,m.new (.cells cs))
 | none=>none
def oL:AV->Option Nat
 | .num _ n=>some n
 | _=>none
def wJ (m:AM) (t:TypeId) (l c:AV):Option (AV×AM) :=
 match P.underlying t,oL l,oL c with
 | some (.slice e),some l,some c=>match P.info? e,zeroOf P e with
  | some ie,some z =>
   bif Nat.ble l c && Nat.ble c 1000000 && Nat.ble (ie.bytes*c) 281474976710656 && Nat.beq z.length ie.size && Nat.ble 1 ie.size then
    some (.sl m.next 0 l c true,m.new (.cells (rep c z)))
   else none
  | _,_=>none
 | _,_,_=>none
def ng (t:TypeId) (x i:AV):Option AV :=
 match oL i with
 | some n=>match P.underlying t,x with
  | some (.slice e),.sl id off len _ _=>match P.info? e with
   | some ie=>bif Nat.ble (n+1) len then some (.ptr id (off+n*ie.size)) else none
   | none=>none
  | some (.array len e),.ptr id off=>match P.info? e with
   | some ie=>bif Nat.ble (n+1) len then some (.ptr id (off+n*ie.size)) else none
   | none=>none
  | _,_=>none
 | none=>none
def Bu (t:TypeId) (x i:AV):Option AV :=
 match oL i,x with
 | some n,.agg cs=>match P.underlying t with
  | some (.array len e)=>match P.info? e with
   | some ie=>bif Nat.ble (n+1) len then rS P e cs (n*ie.size) else none
   | none=>none
  | _=>none
 | _,_=>none
def jM (t:TypeId) (x:AV) (f:Nat):Option AV :=
 match x,P.underlying t with
 | .ptr id off,some (.struct fields)=>match fields.toList[f]? with
  | some fd=>match P.info? fd.type with
   | some i=>bif Nat.beq i.size 0 then none else some (.ptr id (off+fd.offset))
   | none=>none
  | none=>none
 | _,_=>none
def Bv (t:TypeId) (x:AV) (f:Nat):Option AV :=
 match x,P.underlying t with
 | .agg cs,some (.struct fields)=>match fields.toList[f]? with
  | some fd=>rS P fd.type cs fd.offset
  | none=>none
 | _,_=>none
def oM (S:AE) (d:Nat):Option Operand->Option Nat
 | none=>some d
 | some x=>match cC S x with
  | some a=>oL a
  | none=>none
def MB (id off len cap:Nat) (kn:Bool) (size l h:Nat):Option AV :=
 match kn with
 | true=>bif Nat.ble l h && Nat.ble h cap then some (.sl id (bif Nat.beq cap l then off else off+l*size) (h-l) (cap-l) true) else none
 | false=>bif Nat.ble l h && Nat.ble h len then
  (bif Nat.beq l 0 then some (.sl id off h cap false) else
   bif Nat.beq l h then some (.se id off (off+l*size) (cap+l)) else some (.sl id (off+l*size) (h-l) (cap+l) false))
  else none
def Gd (S:AE) (t:TypeId) (x:AV) (lo hi:Option Operand):Option AV :=
 match P.underlying t,x with
 | some (.array n e),.ptr id off=>match P.info? e,oM S 0 lo,oM S n hi with
  | some ie,some l,some h=>MB id off n n true ie.size l h
  | _,_,_=>none
 | some (.slice e),.sl id off len cap kn=>match P.info? e,oM S 0 lo,oM S len hi with
  | some ie,some l,some h=>MB id off len cap kn ie.size l h
  | _,_,_=>none
 | some (.slice e),.se id o1 o2 sub=>match P.info? e,oM S 0 lo,oM S 0 hi with
  | some _,some 0,some 0=>some (.se id o1 o2 sub)
  | _,_,_=>none
 | _,_=>none
def qz (m:AM) (size n:Nat):AV->Option (List AV)
 | .sl id off _ _ _=>match kQ m id with
  | some cs=>KH cs off (n*size)
  | none=>none
 | .se _ _ _ _=>bif Nat.beq n 0 then some [] else none
 | .flat (.slice none _ _)=>bif Nat.beq n 0 then some [] else none
 | .flat (.string s)=>bif Nat.beq size 1 then (if decide (n<=s.size)=true then some ((s.data.toList.take n).map λb=>.num .u8 b.toNat) else none) else none
 | _=>none
def Ja:AV->Option Nat
 | .sl _ _ len _ _=>some len
 | .se _ _ _ _=>some 0
 | .flat (.slice _ len _)=>some len
 | .flat (.string s)=>some s.size
 | _=>none
def nM (m:AM) (cs:List AV) (n size:Nat):AV×AM:=(.sl m.next 0 n 0 false,m.new (.buf cs size))
def wK:Option TypeDesc->Bool
 | some (.int _)=>true
 | _=>false
def Hj (m:AM) (zeros:Bool) (ie:TypeInfo) (z:List AV) (x:AV):Option (Nat×List AV) :=
 match zeros with
 | true=>match oL x with
  | some n=>bif Nat.ble (n*(ie.bytes+1)) 1000000000 then some (n,rep n z) else none
  | none=>none
 | false=>match Ja x with
  | some n=>match qz m ie.size n x with
   | some l=>bif kM l then some (n,l) else none
   | none=>none
  | none=>none
def KJ (m:AM) (size bytes:Nat) (s:AV) (n:Nat) (news:List AV):Option (AV×AM) :=
 match s with
 | .flat (.slice none 0 0)=>bif Nat.ble (n*(bytes+1)) 1000000000 then (bif Nat.beq n 0 then some (s,m) else some (nM m news n size)) else none
 | .sl id off len cap kn=>bif Nat.ble ((len+n)*(bytes+1)) 1000000000 then
  match kn with
  | false=>match m.get id with
   | some (.buf cs z)=>bif Nat.beq z size && Nat.beq off 0 && Nat.beq cap 0 && Nat.ble (len*size) cs.length then some (nM (m.del id) (cs.take (len*size)++news) (len+n) size) else none
   | _=>none
  | true=>bif Nat.ble (len+n) cap then
   match jf m id (off+len*size) news with
   | some m'=>some (.sl id off (len+n) cap true,m')
   | none=>none
   else match qz m size len (.sl id off len cap true) with
    | some old=>some (nM m (old++news) (len+n) size)
    | none=>none
  else none
 | _=>none
def Bw (m:AM) (ts:List TypeId) (args:List AV):Option (AV×AM) :=
 match ts,args with
 | t::t'::_,[s,x]=>match P.underlying t,P.underlying t' with
  | some (.slice e),some d=>match P.info? e,zeroOf P e with
   | some ie,some z=>bif Nat.beq z.length ie.size && Nat.ble 1 ie.size && kM z then
    match Hj m (wK (some d)) ie z x with
    | some (n,news)=>KJ m ie.size ie.bytes s n news
    | none=>none
    else none
   | _,_=>none
  | _,_=>none
 | _,_=>none
def KK (m:AM) (ts:List TypeId) (args:List AV):Option (AV×AM) :=
 match ts,args with
 | t::_,[d,x]=>match P.underlying t with
  | some (.slice e)=>match P.info? e,Ja d,Ja x with
   | some ie,some dl,some xl =>
    match qz m ie.size (min xl dl) x,d with
    | some new,.sl id off _ _ _=>match jf m id off new with
     | some m'=>some (.num .i64 (min xl dl),m')
     | none=>none
    | _,_=>none
   | _,_,_=>none
  | _=>none
 | _,_=>none
def KL (m:AM) (ts:List TypeId) (args:List AV):Option AV :=
 match ts,args with
 | [t],[x]=>match P.underlying t,x with
  | some (.slice _),.sl _ _ len _ _=>some (.num .i64 len)
  | some (.slice _),.se _ _ _ _=>some (.num .i64 0)
  | some (.map _ _),.mp id=>match m.get id with
   | some (.map es _)=>some (.num .i64 es.length)
   | _=>none
  | some (.pointer arr),.ptr _ _=>match P.underlying arr with
   | some (.array n _)=>some (.num .i64 n)
   | _=>none
  | some (.array n _),.agg _=>some (.num .i64 n)
  | _,_=>none
 | _,_=>none
def iI {α:Type}:Sem α->Option α
 | .pure a=>some a
 | .program k=>iI (k P)
 | .mark _ k=>iI k
 | _=>none
def oN (es:List (Value×AV×Nat)):List MapEntry:=es.map λe=>⟨e.1,undef,e.2.2⟩
def Ae (kt:TypeId) (k:Value) (es:List (Value×AV×Nat)):Option (Option Nat) :=
 match iI P (Instr.findKey kt k (oN es)) with
 | some (some (i,_))=>some (some i)
 | some none=>some none
 | none=>none
def qh (em:Bool) (kt:TypeId) (k:Value):Bool :=
 match iI P (Instr.checkKey em 10000 kt k) with
 | some _=>true
 | none=>false
def kE {α:Type}:List α->Bool
 | []=>true
 | _=>false
def uX (m:AM) (t:TypeId) (x k:AV) (ok:Bool):Option AV :=
 match x,mw k,P.underlying t with
 | .mp id,some k,some (.map kt e)=>match m.get id,P.info? e with
  | some (.map es _),some ie=>bif qh P (kE es) kt k then
   match Ae P kt k es,ie.zero with
   | some (some i),_=>match es[i]? with
    | some v=>some (match ok with|true=>.qU [v.2.1,.bool true]|false=>v.2.1)
    | none=>none
   | some none,some z=>some (match ok with|true=>.qU [lift z,.bool false]|false=>lift z)
   | _,_=>none
   else none
  | _,_=>none
 | _,_,_=>none
def jr {α:Type}:List α->Nat->(α->α)->List α
 | [],_,_=>[]
 | a::l,0,f=>f a::l
 | a::l,n+1,f=>a::jr l n f
def stays (es:List (Value×AV×Nat)) (i:Nat) (k:Value):Bool :=
 match es[i]? with
 | some e=>Instr.sameBits 10000 e.1 k
 | none=>false
def Hk (m:AM) (t:TypeId) (x k v:AV):Option AM :=
 match x,mw k,P.underlying t with
 | .mp id,some k,some (.map kt _)=>match m.get id with
  | some (.map es clock)=>bif qh P false kt k then
   match Ae P kt k es with
   | some (some i)=>bif stays es i k then some (m.set id (.map (jr es i λe=>(k,v,e.2.2)) clock)) else none
   | some none=>some (m.set id (.map (es++[(k,v,clock)]) (clock+1)))
   | none=>none
   else none
  | _=>none
 | _,_,_=>none
def Af (m:AM) (t:TypeId) (x k:AV):Option (AV×AM) :=
 match x,mw k,P.underlying t with
 | .mp id,some k,some (.map kt e)=>match m.get id,P.info? e with
  | some (.map es clock),some ie=>bif qh P false kt k then
   match Ae P kt k es,ie.zero with
   | some (some i),_=>match es[i]? with
    | some old=>bif stays es i k then some (.qU [old.2.1,.num .i64 old.2.2],m.set id (.map (jr es i λe=>(k,e.2.1,e.2.2)) clock)) else none
    | none=>none
   | some none,some z=>some (.qU [lift z,.num .i64 clock],m.set id (.map (es++[(k,lift z,clock)]) (clock+1)))
   | _,_=>none
   else none
  | _,_=>none
 | _,_,_=>none
def Bx (n:Nat):List (Value×AV×Nat)->Nat->Option Nat
 | [],_=>none
 | e::l,i=>bif Nat.beq e.2.2 n then some i else Bx n l (i+1)
def uv (m:AM) (x st v:AV):Option AM :=
 match x,st with
 | .mp id,.num _ n=>match m.get id with
  | some (.map es clock)=>match Bx n es 0 with
   | some i=>some (m.set id (.map (jr es i λe=>(e.1,v,e.2.2)) clock))
   | none=>none
  | _=>none
 | _,_=>none
def Bz (m:AM) (ts:List TypeId) (args:List AV):Option AM :=
 match ts,args with
 | t::_,[.mp id,kk]=>match P.underlying t,mw kk with
  | some (.map kt _),some k=>match m.get id with
   | some (.map es clock)=>bif qh P (kE es) kt k then
    match Ae P kt k es with
    | some (some i)=>some (m.set id (.map (es.eraseIdx i) clock))
    | some none=>some m
    | none=>none
    else none
   | _=>none
  | _,_=>none
 | _,_=>none
def Ge (m:AM) (ts:List TypeId) (args:List AV):Option AM :=
 match ts,args with
 | t::_,[.sl id off len cap kn]=>match P.underlying t with
  | some (.slice e)=>match P.info? e,zeroOf P e with
   | some ie,some z=>bif Nat.beq z.length ie.size && Nat.ble 1 ie.size && Nat.ble 1 len then jf m id off (rep len z) else none
   | _,_=>none
  | _=>none
 | t::_,[.mp id]=>match m.get id,P.underlying t with
  | some (.map _ clock),some _=>some (m.set id (.map [] clock))
  | _,_=>none
 | _,_=>none
def rT (t:TypeId) (x:AV):Option AV :=
 match P.underlying t,x with
 | some (.array n _),.sl id off len _ _=>bif Nat.ble n len then some (.ptr id off) else none
 | _,_=>none
def Gf (m:AM) (t:TypeId) (x:AV):Option (AV×AM) :=
 match P.underlying t,x with
 | some (.map _ _),.mp id=>match m.get id with
  | some (.map _ clock)=>some (.ptr m.next 0,m.new (.iter id clock [] clock))
  | _=>none
 | _,_=>none
def KM (m:AM) (x:AV) (str:Bool):Option (AV×AM) :=
 match x,str with
 | .ptr id 0,false=>match m.get id with
  | some (.iter lk since seen last)=>match m.get lk with
   | some (.map es clock) =>
    bif !seen.isEmpty && !es.isEmpty && es.all (λe=>Nat.ble last e.2.2) then none else
     match es.filter λe=>!seen.contains e.2.2 with
     | []=>some (.qU [.bool false],m)
     | [e]=>bif Nat.ble (e.2.2+1) since then some (.qU [.bool true,lift e.1,e.2.1],m.set id (.iter lk since (seen++[e.2.2]) clock)) else none
     | _=>none
   | _=>none
  | _=>none
 | _,_=>none
def Hm (n:Nat):List (Value×AV×Nat)->Option (Value×AV)
 | []=>none
 | e::l=>bif Nat.beq e.2.2 n then some (e.1,e.2.1) else Hm n l
def Gg (m:AM) (x:AV):Option AV :=
 match x with
 | .ptr id 0=>match m.get id with
  | some (.iter lk _ seen stepped)=>match m.get lk,seen.getLast? with
   | some (.map es clock),some stamp=>bif Nat.beq clock stepped then
    match Hm stamp es with
    | some (k,v)=>some (.qU [lift k,v])
    | none=>none
    else none
   | _,_=>none
  | _=>none
 | _=>none
def oO:AV->Option Bool
 | .ptr _ _=>some false
 | .sl _ _ _ _ _=>some false
 | .se _ _ _ _=>some false
 | .mp _=>some false
 | .fn _ _ _=>some false
 | .flat (.pointer none)=>some true
 | .flat (.slice none _ _)=>some true
 | .flat (.map none)=>some true
 | .flat .nilFunc=>some true
 | .flat (.func _ _ _)=>some false
 | .flat (.pointer (some _))=>some false
 | _=>none
def KN (x y:AV):Option Bool :=
 match oO x,oO y with
 | some true,some b=>some b
 | some b,some true=>some b
 | some false,some false=>match x,y with
  | .ptr a i,.ptr b j=>bif Nat.beq a b then some (Nat.beq i j) else none
  | _,_=>none
 | _,_=>none
def KO:IntKind->Option Nat
 | .u8=>some 256
 | .u16=>some 65536
 | .u32=>some 4294967296
 | .u64=>some 18446744073709551616
 | _=>none
def kF {R:Type}(n:Nat) (k:Nat->R):R:=match n with
 | 0=>k 0
 | m+1=>k (Nat.succ m)
def yu (k:IntKind) (n:Nat):Option AV :=
 match k with
 | .i64=>bif Nat.ble n 9223372036854775807 then kF n λn=>some (.num .i64 n) else none
 | .u64=>kF (n % 18446744073709551616) λn=>some (.num .u64 n)
 | .u32=>kF (n % 4294967296) λn=>some (.num .u32 n)
 | .u16=>kF (n % 65536) λn=>some (.num .u16 n)
 | .u8=>kF (n % 256) λn=>some (.num .u8 n)
 | .i32=>bif Nat.ble n 2147483647 then kF n λn=>some (.num .i32 n) else none
 | _=>none
def uw (k:IntKind) (x y r:Nat):Option AV :=
 match KO k with
 | some M=>bif Nat.ble (x+1) M && Nat.ble (y+1) M then kF r λn=>some (.num k n) else none
 | none=>none
def BA (op:BinOp) (k:IntKind) (x y:Nat):Option AV :=
 match op with
 | .add=>yu k (x+y)
 | .sub=>bif Nat.ble y x then yu k (x-y) else none
 | .mul=>yu k (x*y)
 | .eql=>some (.bool (Nat.beq x y))
 | .neq=>some (.bool (!Nat.beq x y))
 | .lss=>some (.bool (Nat.ble (x+1) y))
 | .leq=>some (.bool (Nat.ble x y))
 | .gtr=>some (.bool (Nat.ble (y+1) x))
 | .geq=>some (.bool (Nat.ble y x))
 | .and=>uw k x y (Nat.land x y)
 | .or=>uw k x y (Nat.lor x y)
 | .xor=>uw k x y (Nat.xor x y)
 | .rem=>bif Nat.beq y 0 then none else kF (x % y) λn=>some (.num k n)
 | .quo=>bif Nat.beq y 0 then none else yu k (x / y)
 | _=>none
def dG:IntKind->Nat
 | .i8=>0
 | .i16=>1
 | .i32=>2
 | .i64=>3
 | .u8=>4
 | .u16=>5
 | .u32=>6
 | .u64=>7
def qA (op:BinOp) (k:IntKind) (x:Nat) (k':IntKind) (y:Nat):Option AV :=
 match op with
 | .shl=>yu k (x*2 ^ (min y k.bits))
 | .shr=>kF (x / 2 ^ (min y k.bits)) λn=>some (.num k n)
 | op=>bif Nat.beq (dG k) (dG k') then BA op k x y else none
def KP (op:BinOp) (x y:AV):Option AV :=
 match x with
 | .num k a=>match y with
  | .num k' b=>qA op k a k' b
  | _=>none
 | _=>none
def js:AV->Nat
 | .ptr _ _=>1
 | .sl _ _ _ _ _=>2
 | .se _ _ _ _=>2
 | .mp _=>3
 | .fn _ _ _=>4
 | .flat v=>match v with
  | .pointer _=>1
  | .slice _ _ _=>2
  | .map _=>3
  | .nilFunc=>4
  | .func _ _ _=>4
  | _=>0
 | _=>0
def wL (t:TypeId):Nat :=
 match P.underlying t with
 | some (.pointer e)=>match P.info? e with
  | some ie=>bif Nat.beq ie.size 0 then 9 else 1
  | none=>9
 | some (.slice _)=>2
 | some (.map _ _)=>3
 | some (.func _ _ _)=>4
 | _=>9
def Hn (op:BinOp) (t:TypeId) (x y:AV):Option AV :=
 bif Nat.beq (js x) (wL P t) && Nat.beq (js y) (wL P t) then
  match op,KN x y with
  | .eql,some b=>some (.bool b)
  | .neq,some b=>some (.bool (!b))
  | _,_=>none
 else none
def wM (m:AM) (src dst:TypeId) (x:AV):Option (AV×AM) :=
 match P.underlying src,P.underlying dst,x with
 | some _,some (.int k),.num _ x=>match yu k x with
  | some a=>some (a,m)
  | none=>some (ofInt k (k.wrap (.ofNat x)),m)
 | some _,some (.int k),.flat (.int _ n)=>some (ofInt k (k.wrap n),m)
 | some (.slice e),some .string,x=>match P.underlying e,x with
  | some (.int .u8),.sl id off len _ _=>match qz m 1 len x with
   | some cs=>match bytesOf cs with
    | some bs=>some (.flat (.string ⟨bs.toArray⟩),m)
    | none=>none
   | none=>none
  | some (.int .u8),.se _ _ _ _=>some (.flat (.string ⟨#[]⟩),m)
  | some (.int .u8),.flat (.slice none _ _)=>some (.flat (.string ⟨#[]⟩),m)
  | _,_=>none
 | some .string,some (.slice e),.flat (.string s)=>match P.underlying e with
  | some (.int .u8)=>bif Nat.ble s.size 1000000000 then some (nM m (s.data.toList.map λb=>.num .u8 b.toNat) s.size 1) else none
  | _=>none
 | some .string,some .string,.flat (.string s)=>some (.flat (.string s),m)
 | _,_,_=>none
where
 bytesOf:List AV->Option (List UInt8)
  | []=>some []
  | a::l=>match a with
   | .num .u8 n=>bif Nat.ble n 255 then match bytesOf l with
    | some bs=>some (UInt8.ofNat n::bs)
    | none=>none
    else none
   | _=>none
def jD (S:AE) (o:Oper) (r:Option AV):Option AV :=
 match r with
 | some a=>some a
 | none=>oK P S o
def KR (S:AE) (c a b:Operand):Option AV :=
 match cC S c with
 | some (.bool t)=>match t with
  | true=>cC S a
  | false=>cC S b
 | _=>none
def pF (x:Option AV):Option AV :=
 match x with
 | some (.ptr a b)=>some (.ptr a b)
 | some (.fn f a b)=>some (.fn f a b)
 | some (.yl id)=>some (.yl id)
 | some (.flat (.pointer (some a)))=>some (.flat (.pointer (some a)))
 | some (.flat (.func (.func f) a b))=>some (.flat (.func (.func f) a b))
 | _=>none
def sR (S:AE) (o:Oper) (op:BinOp) (t:TypeId) (x y:Option AV):Option AV :=
 match x,y with
 | some a,some b=>match KP op a b with
  | some r=>some r
  | none=>jD P S o (Hn P op t a b)
 | _,_=>none
def sS (S:AE) (fn:Fn) (fst cap:List Operand):Option AV :=
 match fn,jX S fst,jX S cap with
 | .func f,some a,some b=>some (.fn f a b)
 | _,_,_=>none
def rU (S:AE) (o:Oper) (x:Option AV) (i:Nat):Option AV :=
 match x with
 | some (.qU cs)=>cs[i]?
 | some _=>oK P S o
 | none=>none
def Jx (x:Option AV) (f:AV->Option AV):Option AV:=match x with|some a=>f a|none=>none
def N0 (x y:Option AV) (f:AV->AV->Option AV):Option AV:=match x with|some a=>(match y with|some b=>f a b|none=>none)|none=>none
def wN (S:AE) (o:Oper) (t:TypeId) (x:Option AV) (lo hi mx:Option Operand):Option AV :=
 match x,mx with
 | some a,none=>jD P S o (Gd P S t a lo hi)
 | _,_=>none
def BB (m:AM) (S:AE) (o:Oper) (c:Call):Option AV :=
 match jX S c.args.toList with
 | some asx=>jD P S o (KL P m c.argTypes.toList asx)
 | none=>none
def Gh (t:TypeId) (a:AV):Option AV :=
 match P.underlying t with
 | some (.interface _)=>none
 | some _=>some (.LZ t a)
 | none=>none
def BC (t:TypeId) (ok:Bool) (x:Option AV):Option AV :=
 match x with
 | some (.LZ t' a)=>match P.underlying t with
  | some (.interface _)=>none
  | some _=>bif Nat.beq t' t then some (match ok with|true=>.qU [a,.bool true]|false=>a) else none
  | none=>none
 | _=>none
def BD (m:AM) (t:TypeId) (a:AV) (name:String):Option (FuncId×AV) :=
 match P.info? t with
 | some ti=>match ti.methods.toList.find? (λx=>x.name == name) with
  | some mt=>match mt.path.toList,mt.func,P.underlying t with
   | [],some (f,pr),some (.pointer e)=>match pr,a with
    | true,a=>some (f,a)
    | false,.ptr id off=>match qg P G m e (.ptr id off) with
     | some x=>some (f,x)
     | none=>none
    | false,_=>none
   | _,_,_=>none
  | none=>none
 | none=>none
def ik (m:AM) (S:AE) (o:Oper):Option AV :=
 match o.op with
 | .move x=>cC S x
 | .assign x=>cC S x
 | .pick c a b=>KR S c a b
 | .build t parts=>jD P S o (Bt P S t parts.toList)
 | .load t x=>Jx (cC S x) (qg P G m t)
 | .nilCheck x=>pF (cC S x)
 | .binOp op t x y _=>sR P S o op t (cC S x) (cC S y)
 | .makeFunc fn fst cap=>sS S fn fst.toList cap.toList
 | .slice t x lo hi mx=>wN P S o t (cC S x) lo hi mx
 | .fieldAddr t x f=>jD P S o (Jx (cC S x) λa=>jM P t a f)
 | .field t x f=>jD P S o (Jx (cC S x) λa=>Bv P t a f)
 | .indexAddr t x i=>jD P S o (N0 (cC S x) (cC S i) (ng P t))
 | .index t x i=>jD P S o (N0 (cC S x) (cC S i) (Bu P t))
 | .lookup t x k ok=>jD P S o (N0 (cC S x) (cC S k) λa b=>uX P m t a b ok)
 | .extract x i=>rU P S o (cC S x) i
 | .entry x=>Jx (cC S x) (Gg m)
 | .sliceToArrayPointer t x=>Jx (cC S x) (rT P t)
 | .unOp _ _ _=>oK P S o
 | .convert _ _ _=>oK P S o
 | .makeInterface t x=>Jx (cC S x) (Gh P t)
 | .typeAssert x _ t ok=>BC P t ok (cC S x)
 | .call c=>match c.callee with
  | .builtin b=>match b with
   | .len=>BB P m S o c
   | _=>oK P S o
  | _=>none
 | _=>none
abbrev R2:=Option (AV×AM)
def rd (m:AM) (r:Option AV):R2:=match r with|some a=>some (a,m)|none=>none
def wr (r:Option AM):R2:=match r with|some m=>some (.flat undef,m)|none=>none
def uY (m:AM) (t:TypeId) (x y:Option AV):R2 :=
 match x with
 | some a=>(match y with|some b=>wr (KI P m t a b)|none=>none)
 | none=>none
def rV (m:AM) (t:TypeId):R2 :=
 match zeroOf P t with
 | some z=>some (.ptr m.next 0,m.new (.cells z))
 | none=>none
def Ho (m:AM) (x:Option AV):R2 :=
 match x with
 | some a=>some (.ptr m.next 0,m.new (.cells (cellsOf a)))
 | none=>none
def N4 (m:AM) (x st v:Option AV):R2 :=
 match x,st,v with
 | some a,some b,some c=>wr (uv m a b c)
 | _,_,_=>none
def N5 (m:AM) (t:TypeId) (x k:Option AV):R2 :=
 match x with
 | some a=>(match k with|some b=>Af P m t a b|none=>none)
 | none=>none
def Hp (m:AM) (t:TypeId) (x k v:Option AV):R2 :=
 match x,k,v with
 | some a,some b,some c=>wr (Hk P m t a b c)
 | _,_,_=>none
def Ag (m:AM) (S:AE) (o:Oper) (b:Builtin) (c:Call):R2 :=
 match b with
 | .append=>match jX S c.args.toList with
  | some asx=>Bw P m c.argTypes.toList asx
  | none=>none
 | .copy=>match jX S c.args.toList with
  | some asx=>KK P m c.argTypes.toList asx
  | none=>none
 | .delete=>match jX S c.args.toList with
  | some asx=>match Bz P m c.argTypes.toList asx with
   | some m'=>some (.flat (.tuple #[]),m')
   | none=>none
  | none=>none
 | .clear=>match jX S c.args.toList with
  | some asx=>match Ge P m c.argTypes.toList asx with
   | some m'=>some (.flat (.tuple #[]),m')
   | none=>none
  | none=>none
 | _=>rd m (ik P G m S o)
def callee (S:AE) (x:Operand) (args:List Operand):Option (FuncId×List AV) :=
 match jX S args with
 | some asx=>match cC S x with
  | some (.flat (.func (.func f) fst cap))=>some (f,fst.toList.map lift++asx++cap.toList.map lift)
  | some (.fn f fst cap)=>some (f,fst++asx++cap)
  | _=>none
 | none=>none
def enters (f:FuncId):Bool :=
 match P.funcs[f]? with
 | some fn => bif fn.name == "runtime.NumGoroutine" then false else fn.body.isSome
 | none=>false
def BE (call:FuncId->List AV->AM->R2) (m:AM) (r:Option (FuncId×List AV)):R2 :=
 match r with
 | some (f,asx)=>bif enters P f then call f asx m else none
 | none=>none
def Nm (call:FuncId->List AV->AM->R2) (m:AM) (x:Option AV) (args:Option (List AV)) (name:String):R2 :=
 match x,args with
 | some (.LZ t a),some asx=>match BD P G m t a name with
  | some (f,r)=>bif enters P f then call f (r::asx) m else none
  | none=>none
 | _,_=>none
def KS (x:Option AV) (f:AV->R2):R2:=match x with|some a=>f a|none=>none
def sT (m:AM) (r:Option Operand):R2:=match r with|none=>some (.mp m.next,m.new (.map [] 0))|some _=>none
def oP (m:AM) (t:TypeId) (x y:Option AV):R2 :=
 match x with
 | some a=>(match y with|some b=>wJ P m t a b|none=>none)
 | none=>none
def iE (call:FuncId->List AV->AM->R2) (m:AM) (S:AE) (o:Oper):R2 :=
 match o.op with
 | .binOp op t x y _=>rd m (sR P S o op t (cC S x) (cC S y))
 | .load t x=>rd m (Jx (cC S x) (qg P G m t))
 | .store t x y=>uY P m t (cC S x) (cC S y)
 | .alloc t=>rV P m t
 | .box _ x=>Ho m (cC S x)
 | .buildSlice t len parts=>lU P S m t len parts.toList
 | .makeMap _ r=>sT m r
 | .makeSlice t l c=>oP P m t (cC S l) (cC S c)
 | .mapUpdate t x k v=>Hp P m t (cC S x) (cC S k) (cC S v)
 | .insert t x k v=>Hp P m t (cC S x) (cC S k) (cC S v)
 | .mapEntry t x k=>N5 P m t (cC S x) (cC S k)
 | .entryStore _ x st v=>N4 m (cC S x) (cC S st) (cC S v)
 | .range t x=>KS (cC S x) (Gf P m t)
 | .next x str=>KS (cC S x) λa=>KM m a str
 | .convert src dst x=>KS (cC S x) (wM P m src dst)
 | .call c=>match c.callee with
  | .builtin b=>Ag P G m S o b c
  | .value x=>BE P call m (callee S x c.args.toList)
  | .invoke recv name=>Nm P G call m (cC S recv) (jX S c.args.toList) name
 | _=>rd m (ik P G m S o)
def YF:FuncId:=4294967295
def KT (call:FuncId->List AV->AM->R2) (m:AM) (S:AE) (x:Operand) (args:List Operand):R2 :=
 match cC S x with
 | some (.yl id)=>match jX S args with
  | some asx=>call YF (.yl id::asx) m
  | none=>none
 | _=>BE P call m (callee S x args)
def uS (call:FuncId->List AV->AM->R2) (m:AM) (S:AE) (o:Oper):R2 :=
 match o.op with
 | .call c=>match c.callee with
  | .value x=>KT P call m S x c.args.toList
  | _=>iE P G call m S o
 | _=>iE P G call m S o
def KU (S:AE) (d:Nat) (want:Bool):Option Bool :=
 match S.get d with
 | some (.bool b)=>some (match want with|true=>b|false=>!b)
 | some (.flat v)=>match v with
  | .tuple _=>some false
  | _=>none
 | _=>none
def kR (ops:List Oper) (S:AE) (g:Option (Nat×Bool)):Option Bool :=
 match g with
 | none=>some true
 | some (j,want)=>match ops[j]? with
  | some p=>match p.dst with
   | some d=>KU S d want
   | none=>some false
  | none=>some false
def qB (N:Nat) (S:AE) (d:Option Tmp) (a:AV):Option AE :=
 match d with
 | none=>some S
 | some d=>bif Nat.ble (d+1) N then some (S.set d (some a)) else none
inductive Ex where
 | normal
 | exit (id:Nat)
 | ret
def BF (N:Nat) (S:AE) (d:Option Tmp) (r:R2):Option (AE×AM) :=
 match r with
 | some (a,m')=>match qB N S d a with
  | some S'=>some (S',m')
  | none=>none
 | none=>none
def fJ (call:FuncId->List AV->AM->R2) (N:Nat) (ops:List Oper) (o:Oper) (S:AE) (m:AM):Option (AE×AM) :=
 match kR ops S o.guard with
 | some true=>BF N S o.dst (uS P G call m S o)
 | some false=>BF N S o.dst (some (.flat undef,m))
 | none=>none
def BG (ih:AE->AM->Option (AE×AM)) (r:Option (AE×AM)):Option (AE×AM) :=
 match r with
 | some (S,m)=>ih S m
 | none=>none
def uT (k:Nat):List AV->AE->AE
 | [],S=>S
 | a::l,S=>uT (k+1) l (S.set k (some a))
def N6 (m:AM) (S:AE):ResultVar->Option AV
 | .tmp t=>S.get t
 | .cell t ty=>Jx (S.get t) (qg P G m ty)
def DM (m:AM) (S:AE):List ResultVar->Option (List AV)
 | []=>some []
 | r::l=>match N6 P G m S r with
  | some a=>match DM m S l with
   | some asx=>some (a::asx)
   | none=>none
  | none=>none
def Ah:List AV->AV
 | [a]=>a
 | l=>.qU l
def pG:List UInt8->List UInt8->Bool
 | [],[]=>true
 | a::l,b::l'=>bif Nat.beq a.toNat b.toNat then pG l l' else false
 | _,_=>false
def DN (a b:Value):Bool :=
 match a with
 | .int k n=>match b with
  | .int k' n'=>Nat.beq (dG k) (dG k') && decide (n=n')
  | _=>false
 | .bool x=>match b with
  | .bool y=>match x with|true=>y|false=>!y
  | _=>false
 | .string s=>match b with
  | .string t=>pG s.data.toList t.data.toList
  | _=>false
 | .pointer x=>match b with
  | .pointer y=>decide (x=y)
  | _=>false
 | .slice none l c=>match b with
  | .slice none l' c'=>Nat.beq l l' && Nat.beq c c'
  | _=>false
 | .map none=>match b with
  | .map none=>true
  | _=>false
 | .nilFunc=>match b with
  | .nilFunc=>true
  | _=>false
 | .nilIface=>match b with
  | .nilIface=>true
  | _=>false
 | .func fn a1 c1=>match b with
  | .func fn' a2 c2=>match fn with
   | .func f=>match fn' with
    | .func f'=>Nat.beq f f' && kE a1.toList && kE a2.toList && kE c1.toList && kE c2.toList
    | _=>false
   | _=>false
  | _=>false
 | _=>false
def BH:List Value->List Value->Bool
 | [],[]=>true
 | a::l,b::l'=>bif DN a b then BH l l' else false
 | _,_=>false
def DO (a b:Value):Bool :=
 match a with
 | .agg l=>match b with
  | .agg l'=>BH l.toList l'.toList
  | _=>false
 | a=>DN a b
def Hq (a b:AV):Bool :=
 match a with
 | .num k n=>match b with
  | .num k' n'=>Nat.beq (dG k) (dG k') && Nat.beq n n'
  | _=>false
 | .bool x=>match b with
  | .bool y=>match x with|true=>y|false=>!y
  | _=>false
 | .flat v=>match b with
  | .flat u=>DO v u
  | _=>false
 | .ptr i j=>match b with
  | .ptr i' j'=>Nat.beq i i' && Nat.beq j j'
  | _=>false
 | .sl i o l c k=>match b with
  | .sl i' o' l' c' k'=>Nat.beq i i' && Nat.beq o o' && Nat.beq l l' && Nat.beq c c' && (match k with|true=>k' | false=>!k')
  | _=>false
 | .se i o l c=>match b with
  | .se i' o' l' c'=>Nat.beq i i' && Nat.beq o o' && Nat.beq l l' && Nat.beq c c'
  | _=>false
 | .mp i=>match b with
  | .mp i'=>Nat.beq i i'
  | _=>false
 | .yl i=>match b with
  | .yl i'=>Nat.beq i i'
  | _=>false
 | _=>false
def nh (f:AV->AV->Bool):List AV->List AV->Bool
 | [],[]=>true
 | a::l,b::l'=>bif f a b then nh f l l' else false
 | _,_=>false
def wO (f:AV->AV->Bool) (a b:AV):Bool :=
 match a with
 | .LZ t x=>match b with
  | .LZ t' x'=>Nat.beq t t' && f x x'
  | _=>false
 | .fn g x y=>match b with
  | .fn g' x' y'=>Nat.beq g g' && nh f x x' && nh f y y'
  | _=>false
 | .agg l=>match b with
  | .agg l'=>nh f l l'
  | _=>false
 | .qU l=>match b with
  | .qU l'=>nh f l l'
  | _=>false
 | a=>Hq a b
def ux:AV->AV->Bool:=wO (wO (wO Hq))
def looks:Op->Bool
 | .load _ _=>true
 | .lookup _ _ _ _=>true
 | .entry _=>true
 | .call _=>true
 | _=>false
abbrev jN:=List (Nat×AE×Oper×AV)
def still (M:List Nat) (i:Nat) (m:AM):jN->Bool
 | []=>true
 | x::D=>bif Cw M x.1 i then still M i m D else
  match ik P G m x.2.1 x.2.2.1 with
  | some a=>bif ux a x.2.2.2 then still M i m D else false
  | none=>false
abbrev DP:=List (Nat×Bool)×List Nat×Option Nat
abbrev R3:=Option (Ex×AE×AM)
abbrev Rec:=FuncId->Nat->Code->AE->AM->R3
abbrev Ord:=FuncId->Nat->Option DP
def uZ (fn:Func) (r:R3):R2 :=
 match r with
 | some (e,S',m')=>match e with
  | .exit _=>none
  | _=>match DM P G m' S' fn.results.toList with
   | some l=>some (Ah l,m')
   | none=>none
 | none=>none
def DQ (ih:Rec) (g:FuncId) (fn:Func) (asx:List AV) (m:AM):R2 :=
 match fn.body with
 | some b=>bif Nat.ble asx.length fn.ntmps then uZ P G fn (ih g fn.ntmps b (uT 0 asx .nil) m) else none
 | none=>none
abbrev eY:=FuncId->Option (List AV->AM->R2)
def lC (X:eY) (ih:Rec) (g:FuncId) (asx:List AV) (m:AM):R2 :=
 match X g with
 | some f=>f asx m
 | none=>match P.funcs[g]? with
  | some fn=>DQ P G ih g fn asx m
  | none=>none
def wP (size:Nat) (asx:List AV) (m:AM):R2 :=
 match asx with
 | [.sl id off len cap kn,.num .i64 n]=>match kn with
  | false=>bif Nat.beq off 0 && Nat.beq cap 0 && Nat.ble n 1000000 && Nat.ble len 1000000 then
   match m.get id with
   | some (.buf cs z)=>bif Nat.beq z size && Nat.beq cs.length len then some (nM (m.del id) cs len size) else none
   | _=>none
   else none
  | true=>none
 | [.flat (.slice none 0 0),.num .i64 n]=>bif Nat.ble n 1000000 && Nat.ble 1 n then some (nM m [] 0 size) else none
 | _=>none
def KV (ih:Rec) (f:FuncId) (N:Nat) (b:Code) (r:R3):R3 :=
 match r with
 | some (e,S,m)=>match e with
  | .normal=>ih f N b S m
  | e=>some (e,S,m)
 | none=>none
def Gi (id:Nat) (r:R3):R3 :=
 match r with
 | some (e,S,m)=>match e with
  | .exit id'=>bif Nat.beq id' id then some (.normal,S,m) else some (.exit id',S,m)
  | e=>some (e,S,m)
 | none=>none
def KW (ih:Rec) (f:FuncId) (N:Nat) (a b:Code) (S:AE) (m:AM) (x:Option AV):R3 :=
 match x with
 | some (.bool t)=>match t with
  | true=>ih f N a S m
  | false=>ih f N b S m
 | _=>none
def MC (r:Option (AE×AM)):R3:=match r with|some (S,m)=>some (.normal,S,m)|none=>none
def wQ:List (Nat×Bool)->PT
 | []=>.done
 | (i,true)::l=>.rd i (wQ l)
 | (i,false)::l=>.ef i (wQ l)
def lD (x:Nat):List (Nat×Bool)->List (Nat×Bool)
 | []=>[]
 | y::l=>bif Nat.beq y.1 x then l else y::lD x l
def Jy (x:Nat):List (Nat×Bool)->PT
 | []=>.done
 | (i,true)::l=>.rd i (Jy x l)
 | (i,false)::l=>bif Nat.beq i x then .ef x (wQ l) else .alt (.ef x (.ef i (wQ (lD x l)))) (.ef i (Jy x l))
def qC (p:DP):PT:=match p.2.2 with
 | none=>wQ p.1
 | some x=>Jy x p.1
def mF:Code->List (Nat×Array Oper)
 | .region id ops draw=>match draw with
  | true=>[(id,ops)]
  | false=>[]
 | .seq x y=>mF x++mF y
 | .cond _ x y=>mF x++mF y
 | .block _ x=>mF x
 | .loop x=>mF x
 | .rangeFunc _ _ x y=>mF x++mF y
 | _=>[]
def gK:Code->Bool
 | .seq a b=>gK a && gK b
 | .cond _ a b=>gK a && gK b
 | .block _ b=>gK b
 | .loop b=>gK b
 | .scope b=>gK b
 | .rangeFunc _ _ _ _=>false
 | _=>true
def KX (aO:Ord) (f:FuncId) (c:Code):Bool:=(mF c).all λx=>match aO f x.1 with
 | some p=>qj x.2 p.2.1 (qC p)
 | none=>true
def wR (N:Nat):List Tmp->List AV->AE->Option AE
 | [],[],S=>some S
 | p::ps,a::l,S=>bif Nat.ble (p+1) N then wR N ps l (S.set p (some a)) else none
 | _,_,_=>none
def Qq:Ex->Option Code
 | .normal=>none
 | .exit id=>some (.exit id)
 | .ret=>some .ret
def Ai (id:Nat) (r:R3):R2 :=
 match r with
 | some (e,_,m)=>match m.get id with
  | some (.loop f N S0 ps a b _ _)=>match e with
   | .normal=>some (.bool true,m.set id (.loop f N S0 ps a b 0 none))
   | .exit k=>some (.bool false,m.set id (.loop f N S0 ps a b 2 (some (.exit k))))
   | .ret=>some (.bool false,m.set id (.loop f N S0 ps a b 2 (some .ret)))
  | _=>none
 | none=>none
def wS (ih:Rec) (id f N:Nat) (body:Code) (r:R3):R2 :=
 match r with
 | some (e,S,m)=>match e with
  | .normal=>match m.get id with
   | some (.loop f' N' S0 ps a b st p)=>match st with
    | 0=>Ai id (ih f N body S (m.set id (.loop f' N' S0 ps a b 1 p)))
    | _=>none
   | _=>none
  | _=>none
 | none=>none
def KY (aO:Ord) (ih:Rec) (asx:List AV) (m:AM):R2 :=
 match asx with
 | .yl id::args=>match m.get id with
  | some (.loop f N S ps a b _ _)=>bif KX aO f a && KX aO f b && gK a && gK b then
   match wR N ps args S with
   | some S1=>wS ih id f N b (ih f N a S1 m)
   | none=>none
   else none
  | _=>none
 | _=>none
def Rz (aO:Ord) (X:eY) (ih:Rec) (g:FuncId) (asx:List AV) (m:AM):R2 :=
 bif Nat.beq g YF then (bif enters P YF then none else KY aO ih asx m) else lC P G X ih g asx m
def N7 (a:AV) (args:List AV):Option (FuncId×List AV) :=
 match a with
 | .flat (.func (.func f) fst cap)=>some (f,fst.toList.map lift++args++cap.toList.map lift)
 | .fn f fst cap=>some (f,fst++args++cap)
 | _=>none
def wT (id:Nat) (S:AE) (r:R2):R3 :=
 match r with
 | some (_,m)=>match m.get id with
  | some (.loop _ _ _ _ _ _ st p)=>match st with
   | 0=>(match p with|none=>some (.normal,S,m.del id)|some _=>none)
   | 2=>(match p with
    | some .ret=>some (.ret,S,m.del id)
    | some (.exit k)=>some (.exit k,S,m.del id)
    | _=>none)
   | _=>none
  | _=>none
 | none=>none
def Gj (X:eY) (ih:Rec) (f N:Nat) (g:Operand) (ps:List Tmp) (assign body:Code) (S:AE) (m:AM):R3 :=
 match cC S g with
 | some v=>match N7 v [.yl m.next] with
  | some (f',args)=>bif enters P f' then wT m.next S (lC P G X ih f' args (m.new (.loop f N S ps assign body 0 none))) else none
  | none=>none
 | none=>none
def sU {α:Type}:List α->Nat->Option α
 | [],_=>none
 | a::_,0=>some a
 | _::l,n+1=>sU l n
end
section
variable (P : Program) (G : Nat -> Option (List Value)) (aO : Ord) (X : eY)
noncomputable def sV (call:FuncId->List AV->AM->R2) (N:Nat) (ops:List Oper) (l:List Oper):AE->AM->Option (AE×AM) :=
 List.rec (λS m=>some (S,m)) (λo _ ih S m=>BG ih (fJ P G call N ops o S m)) l
noncomputable def iM (N:Nat) (ops:List Oper) (i:Nat) (o:Oper) (D:jN) (S:AE) (m:AM):Option (jN×AE) :=
 match kR ops S o.guard with
 | some true=>match ik P G m S o with
  | some a=>match qB N S o.dst a with
   | some S'=>some (bif looks o.op then (i,S,o,a)::D else D,S')
   | none=>none
  | none=>none
 | some false=>match qB N S o.dst (.flat undef) with
  | some S'=>some (D,S')
  | none=>none
 | none=>none
def mG (ih:jN->AE->AM->Option (AE×AM)) (m:AM) (r:Option (jN×AE)):Option (AE×AM) :=
 match r with
 | some (D,S)=>ih D S m
 | none=>none
noncomputable def kS (M:List Nat) (i:Nat) (ih:jN->AE->AM->Option (AE×AM)) (D:jN) (r:Option (AE×AM)):Option (AE×AM) :=
 match r with
 | some (S,m)=>bif still P G M i m D then ih D S m else none
 | none=>none
noncomputable def mH (call:FuncId->List AV->AM->R2) (N:Nat) (ops:List Oper) (M:List Nat) (ih:jN->AE->AM->Option (AE×AM)) (x:Nat×Bool) (D:jN) (S:AE) (m:AM):Option (AE×AM) :=
 match sU ops x.1 with
 | some o=>match x.2 with
  | true=>mG ih m (iM P G N ops x.1 o D S m)
  | false=>kS P G M x.1 ih D (fJ P G call N ops o S m)
 | none=>none
noncomputable def lV (call:FuncId->List AV->AM->R2) (N:Nat) (ops:List Oper) (M:List Nat) (l:List (Nat×Bool)):jN->AE->AM->Option (AE×AM) :=
 List.rec (λ_ S m=>some (S,m)) (λx _ ih D S m=>mH P G call N ops M ih x D S m) l
noncomputable def jt (S:AE) (o:Oper):Option (List AV×Option Nat) :=
 match o.op with
 | .alloc t=>match zeroOf P t with
  | some z=>some (z,none)
  | none=>none
 | .buildSlice t len parts=>match iU P S t len parts.toList with
  | some cs=>some (cs,some len)
  | none=>none
 | _=>none
def KZ:Operand->Option Tmp
 | .tmp t=>some t
 | _=>none
def Gk (o:Oper):List Tmp :=
 match o.op with
 | .buildSlice _ _ parts=>parts.toList.filterMap λp=>KZ p.2
 | _=>[]
def Np (d:Option Tmp) (l:List Tmp):Bool :=
 match d with
 | some d=>l.all λt=>!Nat.beq t d
 | none=>true
noncomputable def oQ (S:AE) (ops:List Oper) (x:Nat) (o:Oper):Bool :=
 match sU ops x with
 | some ox=>match jt P S ox with
  | some _=>Np o.dst (Gk ox)
  | none=>true
 | none=>true
noncomputable def BI (S:AE) (ops:List Oper) (x:Nat):Bool :=
 match sU ops x with
 | some ox=>(jt P S ox).isSome
 | none=>false
noncomputable def mI (call:FuncId->List AV->AM->R2) (N:Nat) (ops:List Oper) (M:List Nat) (x:Nat) (rest ih:jN->AE->AM->Option (AE×AM)) (y:Nat×Bool) (D:jN) (S:AE) (m:AM):Option (AE×AM) :=
 match sU ops y.1 with
 | some o=>match y.2 with
  | true=>bif Nat.beq y.1 x then none else (bif oQ P S ops x o then mG ih m (iM P G N ops y.1 o D S m) else none)
  | false=>bif Nat.beq y.1 x then kS P G M y.1 rest D (fJ P G call N ops o S m) else
   bif oQ P S ops x o && BI P S ops x && still P G M x m D then kS P G M y.1 ih D (fJ P G call N ops o S m) else none
 | none=>none
noncomputable def oR (call:FuncId->List AV->AM->R2) (N:Nat) (ops:List Oper) (M:List Nat) (x:Nat) (l:List (Nat×Bool)):jN->AE->AM->Option (AE×AM) :=
 List.rec (λ_ _ _=>none) (λy l' ih D S m=>mI P G call N ops M x (lV P G call N ops M l') ih y D S m) l
def nj (x d:Nat):Nat->List Oper->Bool
 | _,[]=>true
 | k,o::l=>bif Nat.beq k x then nj x d (k+1) l else
  match o.dst with
  | none=>nj x d (k+1) l
  | some d'=>bif Nat.beq d' d then false else nj x d (k+1) l
def Gl (ops:List Oper) (x:Nat):Option Nat :=
 match sU ops x with
 | some o=>match o.op,o.dst,o.guard with
  | .alloc _,some d,none=>bif nj x d 0 ops then some d else none
  | .buildSlice _ _ _,some d,none=>bif nj x d 0 ops then some d else none
  | _,_,_=>none
 | none=>none
noncomputable def Hr (call:FuncId->List AV->AM->R2) (N:Nat) (ops:List Oper) (p:DP) (S:AE) (m:AM):R3 :=
 match p.2.2 with
 | none=>MC (lV P G call N ops p.2.1 p.1 [] S m)
 | some x=>match Gl ops x with
  | some d=>bif Nat.ble (d+1) N then MC (oR P G call N ops p.2.1 x p.1 [] (S.set d none) m) else none
  | none=>none
noncomputable def rW (ih:Rec) (f:FuncId) (N:Nat) (id:Nat) (ops:List Oper) (draw:Bool) (S:AE) (m:AM):R3 :=
 match draw with
 | false=>MC (sV P G (Rz P G aO X ih) N ops ops S m)
 | true=>match aO f id with
  | some p=>Hr P G (Rz P G aO X ih) N ops p S m
  | none=>none
noncomputable def lW (ih:Rec):Rec:=λf N c S m =>
 match c with
 | .skip=>some (.normal,S,m)
 | .label _=>some (.normal,S,m)
 | .ret=>some (.ret,S,m)
 | .exit id=>some (.exit id,S,m)
 | .seq a b=>KV ih f N b (ih f N a S m)
 | .cond x a b=>KW ih f N a b S m (cC S x)
 | .block id b=>Gi id (ih f N b S m)
 | .loop b=>KV ih f N c (ih f N b S m)
 | .region id ops draw=>rW P G aO X ih f N id ops.toList draw S m
 | .rangeFunc g ps assign body=>Gj P G X ih f N g ps.toList assign body S m
 | _=>none
noncomputable def exec (fuel:Nat):Rec:=Nat.rec (λ_ _ _ _ _=>none) (λ_ ih=>lW P G aO X ih) fuel
end
end Go.Ev
namespace Go.Ev
open Go.Sx
set_option linter.unusedVariables false
set_option linter.unusedSimpArgs false
namespace Tr
variable {α : Type}
theorem Nq {β:Type}(a b c d:β):pick 0 a b c d=a:=rfl
theorem Nr {β:Type}(a b c d:β):pick 1 a b c d=b:=rfl
theorem Ns {β:Type}(a b c d:β):pick 2 a b c d=c:=rfl
theorem Nt {β:Type}(a b c d:β):pick 3 a b c d=d:=rfl
theorem get_nil (n:Nat):(Tr.nil:Tr α).get n=none:=rfl
theorem four (k:Nat):Nat.mod k 4=0\/Nat.mod k 4=1\/Nat.mod k 4=2\/Nat.mod k 4=3:=by
 show k % 4=0\/k % 4=1\/k % 4=2\/k % 4=3
 omega
theorem mJ (v:Option α) (a b c d:Tr α) (k:Nat):(Tr.node v a b c d).get (k+1)=(pick (Nat.mod k 4) a b c d).get (Nat.div k 4):=by
 show pick (Nat.mod k 4) (a.get (Nat.div k 4)) (b.get (Nat.div k 4)) (c.get (Nat.div k 4)) (d.get (Nat.div k 4))=_
 rcases four k with h|h|h|h<;>rw [h]<;>rfl
noncomputable def Nv (i:Nat) (v:Option α) (x a b c d:Tr α):Tr α:=pick i (.node v x b c d) (.node v a x c d) (.node v a b x d) (.node v a b c x)
theorem DR (d n:Nat) (x:Option α):put (d+1) .nil (n+1) x=Nv (Nat.mod n 4) none (put d .nil (Nat.div n 4) x) .nil .nil .nil .nil:=rfl
theorem Aj (q n:Nat) (v:Option α) (a b c d:Tr α) (x:Option α):put (q+1) (.node v a b c d) (n+1) x=Nv (Nat.mod n 4) v (put q (pick (Nat.mod n 4) a b c d) (Nat.div n 4) x) a b c d:=by
 show pick (Nat.mod n 4) (Tr.node v (put q a (Nat.div n 4) x) b c d) (.node v a (put q b (Nat.div n 4) x) c d) (.node v a b (put q c (Nat.div n 4) x) d) (.node v a b c (put q d (Nat.div n 4) x))=_
 rcases four n with h|h|h|h<;>rw [h]<;>rfl
theorem DS (n:Nat) (v:Option α) (x a b c d:Tr α):(Nv (Nat.mod n 4) v x a b c d).get 0=v:=by
 unfold Nv
 rcases four n with h|h|h|h<;>rw [h]<;>rfl
theorem Hs (n k:Nat) (v:Option α) (x a b c d:Tr α):(Nv (Nat.mod n 4) v x a b c d).get (k+1)=if Nat.mod k 4=Nat.mod n 4 then x.get (Nat.div k 4) else (pick (Nat.mod k 4) a b c d).get (Nat.div k 4):=by
 unfold Nv
 rcases four n with h|h|h|h<;>rw [h]<;>simp only [Nq,Nr,Ns,Nt]<;>rw [mJ]<;>rcases four k with h2|h2|h2|h2<;>rw [h2]<;>simp only [Nq,Nr,Ns,Nt]<;>simp
theorem BJ:∀ (d:Nat) (t:Tr α) (n:Nat) (x:Option α) (k:Nat),n<d->(put d t n x).get k=if k=n then x else t.get k
 | 0,t,n,x,k,h=>by omega
 | q+1,.nil,0,x,k,_=>by
  cases k with
  | zero=>rfl
  | succ k =>
   show(Tr.node x .nil .nil .nil .nil).get (k+1)=_
   rw [mJ,if_neg za,get_nil]
   rcases four k with h|h|h|h<;>rw [h]<;>rfl
 | q+1,.node v a b c d,0,x,k,_=>by
  cases k with
  | zero=>rfl
  | succ k =>
   show(Tr.node x a b c d).get (k+1)=_
   rw [mJ,if_neg za,mJ]
 | q+1,.nil,n+1,x,k,h=>by
  rw [DR]
  cases k with
  | zero=>rw [DS,if_neg za];rfl
  | succ k =>
   have h1:Nat.div n 4<q:=by show n / 4<q;omega
   rw [Hs,BJ q .nil _ x _ h1]
   have e1:Nat.mod k 4=k % 4:=rfl
   have e2:Nat.mod n 4=n % 4:=rfl
   have e3:Nat.div k 4=k / 4:=rfl
   have e4:Nat.div n 4=n / 4:=rfl
   by_cases hm:Nat.mod k 4=Nat.mod n 4
   ·rw [if_pos hm]
    by_cases e:k=n
    ·subst e;rw [if_pos rfl,if_pos rfl]
    ·rw [if_neg za,if_neg za,get_nil,get_nil]
   ·rw [if_neg hm,if_neg (by intro e;apply hm;rw [Nat.succ.inj e]),get_nil]
    rcases four k with h|h|h|h<;>rw [h]<;>rfl
 | q+1,.node v a b c d,n+1,x,k,h=>by
  rw [Aj]
  cases k with
  | zero=>rw [DS,if_neg za];rfl
  | succ k =>
   have h1:Nat.div n 4<q:=by show n / 4<q;omega
   rw [Hs,BJ q _ _ x _ h1,mJ v]
   have e1:Nat.mod k 4=k % 4:=rfl
   have e2:Nat.mod n 4=n % 4:=rfl
   have e3:Nat.div k 4=k / 4:=rfl
   have e4:Nat.div n 4=n / 4:=rfl
   by_cases hm:Nat.mod k 4=Nat.mod n 4
   ·rw [if_pos hm,hm]
    by_cases e:k=n
    ·subst e;rw [if_pos rfl,if_pos rfl]
    ·rw [if_neg za,if_neg za]
   ·rw [if_neg hm,if_neg (by intro e;apply hm;rw [Nat.succ.inj e])]
theorem iB (t:Tr α) (n:Nat) (a:Option α) (k:Nat):(t.set n a).get k=if k=n then a else t.get k:=BJ (n+1) t n a k za
theorem fK (t:Tr α) (n:Nat) (a:Option α):(t.set n a).get n=a:=by rw [iB,if_pos rfl]
theorem lE (t:Tr α){n k:Nat}(a:Option α) (h:k≠n):(t.set n a).get k=t.get k:=by rw [iB,if_neg h]
end Tr
theorem pH {R:Type}(n:Nat) (k:Nat->R):kF n k=k n:=by cases n<;>rfl
abbrev Nu:=Nat->Option (Nat×Nat)
mutual
def AV.val (ν:Nu):AV->Option Value
 | .num k n=>some (.int k (.ofNat n))
 | .bool b=>some (.bool b)
 | .flat v=>some v
 | .ptr id off=>match ν id with
  | some p=>some (.pointer (some ⟨p.1,off,none⟩))
  | none=>none
 | .sl id off len cap kn=>match ν id with
  | some p=>match kn with
   | true=>if len<=cap then some (.slice (some ⟨p.1,off,none⟩) len cap) else none
   | false=>if len+cap<=p.2 then some (.slice (some ⟨p.1,off,none⟩) len (p.2-cap)) else none
  | none=>none
 | .se id off off' sub=>match ν id with
  | some p=>if sub<=p.2 then some (.slice (some ⟨p.1,if p.2=sub then off else off',none⟩) 0 (p.2-sub)) else none
  | none=>none
 | .mp id=>match ν id with
  | some p=>some (.map (some p.1))
  | none=>none
 | .fn f a b=>match bF ν a,bF ν b with
  | some x,some y=>some (.func (.func f) x.toArray y.toArray)
  | _,_=>none
 | .agg cs=>match bF ν cs with
  | some x=>some (.agg x.toArray)
  | none=>none
 | .qU cs=>match bF ν cs with
  | some x=>some (.tuple x.toArray)
  | none=>none
 | .yl id=>match ν id with
  | some p=>some (.func (.yield p.1) #[] #[])
  | none=>none
 | .LZ t a=>match AV.val ν a with
  | some v=>some (.iface t v)
  | none=>none
def bF (ν:Nu):List AV->Option (List Value)
 | []=>some []
 | a::l=>match AV.val ν a,bF ν l with
  | some v,some vs=>some (v::vs)
  | _,_=>none
end
def Nu.le (ν ν':Nu):Prop:=∀ id p,ν id=some p->ν' id=some p
theorem Nu.le_refl (ν:Nu):ν.le ν:=λ_ _ h=>h
theorem Nu.le_trans {ν ν' ν'':Nu}(h:ν.le ν') (h':ν'.le ν''):ν.le ν'':=λid p hp=>h' id p (h id p hp)
def Nu.add (ν:Nu) (id:Nat) (p:Nat×Nat):Nu:=λk=>if k=id then some p else ν k
theorem Nu.nk {ν:Nu}{id:Nat}{p:Nat×Nat}(h:ν id=none):ν.le (ν.add id p):=λk q hq=>by
 unfold Nu.add
 by_cases e:k=id
 ·subst e;rw [h] at hq;cases hq
 ·rw [if_neg e];exact hq
theorem Nu.bV (ν:Nu) (id:Nat) (p:Nat×Nat):(ν.add id p) id=some p:=by simp [Nu.add]
mutual
theorem AV.eL {ν ν':Nu}(h:ν.le ν'):∀ (a:AV){v:Value},a.val ν=some v->a.val ν'=some v
 | .num _ _,v,hv=>hv
 | .bool _,v,hv=>hv
 | .flat _,v,hv=>hv
 | .ptr id off,v,hv=>by
  simp only [AV.val] at hv ⊢
  cases hp:ν id with
  | none=>rw [hp] at hv;cases hv
  | some p=>rw [h id p hp];rw [hp] at hv;exact hv
 | .sl id off len cap kn,v,hv=>by
  simp only [AV.val] at hv ⊢
  cases hp:ν id with
  | none=>rw [hp] at hv;cases hv
  | some p=>rw [h id p hp];rw [hp] at hv;exact hv
 | .se id off off' sub,v,hv=>by
  simp only [AV.val] at hv ⊢
  cases hp:ν id with
  | none=>rw [hp] at hv;cases hv
  | some p=>rw [h id p hp];rw [hp] at hv;exact hv
 | .mp id,v,hv=>by
  simp only [AV.val] at hv ⊢
  cases hp:ν id with
  | none=>rw [hp] at hv;cases hv
  | some p=>rw [h id p hp];rw [hp] at hv;exact hv
 | .yl id,v,hv=>by
  simp only [AV.val] at hv ⊢
  cases hp:ν id with
  | none=>rw [hp] at hv;cases hv
  | some p=>rw [h id p hp];rw [hp] at hv;exact hv
 | .LZ t a,v,hv=>by
  simp only [AV.val] at hv ⊢
  cases ha:AV.val ν a with
  | none=>rw [ha] at hv;cases hv
  | some x=>rw [AV.eL h a ha];rw [ha] at hv;exact hv
 | .fn f a b,v,hv=>by
  simp only [AV.val] at hv ⊢
  cases ha:bF ν a with
  | none=>rw [ha] at hv;cases hv
  | some x =>
   cases hb:bF ν b with
   | none=>rw [ha,hb] at hv;cases hv
   | some y=>rw [dX h a ha,dX h b hb];rw [ha,hb] at hv;exact hv
 | .agg cs,v,hv=>by
  simp only [AV.val] at hv ⊢
  cases ha:bF ν cs with
  | none=>rw [ha] at hv;cases hv
  | some x=>rw [dX h cs ha];rw [ha] at hv;exact hv
 | .qU cs,v,hv=>by
  simp only [AV.val] at hv ⊢
  cases ha:bF ν cs with
  | none=>rw [ha] at hv;cases hv
  | some x=>rw [dX h cs ha];rw [ha] at hv;exact hv
theorem dX {ν ν':Nu}(h:ν.le ν'):∀ (l:List AV){vs:List Value},bF ν l=some vs->bF ν' l=some vs
 | [],vs,hv=>hv
 | a::l,vs,hv=>by
  simp only [bF] at hv ⊢
  cases ha:a.val ν with
  | none=>rw [ha] at hv;cases hv
  | some x =>
   cases hb:bF ν l with
   | none=>rw [ha,hb] at hv;cases hv
   | some y=>rw [AV.eL h a ha,dX h l hb];rw [ha,hb] at hv;exact hv
end
theorem cB {ν:Nu}{a:AV}{l:List AV}{vs:List Value}:bF ν (a::l)=some vs↔∃ v ws,a.val ν=some v/\bF ν l=some ws/\vs=v::ws:=by
 simp only [bF]
 cases ha:a.val ν with
 | none=>simp
 | some x =>
  cases hb:bF ν l with
  | none=>simp
  | some y=>simp [eq_comm]
theorem aM {ν:Nu}{a:AV}{l:List AV}{v:Value}{ws:List Value}(h1:a.val ν=some v) (h2:bF ν l=some ws):bF ν (a::l)=some (v::ws):=cB.2 ⟨v,ws,h1,h2,rfl⟩
theorem cO {ν:Nu}:∀ {l:List AV}{vs:List Value},bF ν l=some vs->vs.length=l.length
 | [],vs,h=>by simp only [bF,Option.some.injEq] at h;subst h;rfl
 | a::l,vs,h=>by
  obtain⟨v,ws,_,h2,rfl⟩:=cB.1 h
  simp [cO h2]
theorem mK {ν:Nu}:∀ {l:List AV}{vs:List Value},bF ν l=some vs->∀ {i:Nat}{a:AV},l[i]?=some a->∃ v,a.val ν=some v/\vs[i]?=some v
 | a::l,vs,h,i,x,hi=>by
  obtain⟨v,ws,h1,h2,rfl⟩:=cB.1 h
  cases i with
  | zero=>simp at hi;subst hi;exact⟨v,h1,rfl⟩
  | succ i=>simpa using mK h2 (by simpa using hi)
theorem eA {ν:Nu}:∀ {l l':List AV}{vs vs':List Value},bF ν l=some vs->bF ν l'=some vs'->bF ν (l++l')=some (vs++vs')
 | [],l',vs,vs',h,h'=>by simp only [bF,Option.some.injEq] at h;subst h;exact h'
 | a::l,l',vs,vs',h,h'=>by
  obtain⟨v,ws,h1,h2,rfl⟩:=cB.1 h
  exact aM h1 (eA h2 h')
theorem Ak {ν:Nu}:∀ {l:List AV}{vs:List Value}(n:Nat),bF ν l=some vs->bF ν (l.drop n)=some (vs.drop n)
 | l,vs,0,h=>by simpa using h
 | [],vs,n+1,h=>by simp only [bF,Option.some.injEq] at h;subst h;rfl
 | a::l,vs,n+1,h=>by
  obtain⟨v,ws,h1,h2,rfl⟩:=cB.1 h
  simpa using Ak n h2
theorem sW {ν:Nu}:∀ {l:List AV}{vs:List Value}(n:Nat),bF ν l=some vs->bF ν (l.take n)=some (vs.take n)
 | l,vs,0,h=>rfl
 | [],vs,n+1,h=>by simp only [bF,Option.some.injEq] at h;subst h;rfl
 | a::l,vs,n+1,h=>by
  obtain⟨v,ws,h1,h2,rfl⟩:=cB.1 h
  simpa using aM h1 (sW n h2)
theorem Al {ν:Nu}:∀ {vs cs:List AV}{us ws:List Value},bF ν vs=some us->bF ν cs=some ws->bF ν (over vs cs)=some (over us ws)
 | [],cs,us,ws,h,h'=>by simp only [bF,Option.some.injEq] at h;subst h;exact h'
 | v::vs,[],us,ws,h,h'=>by
  simp only [bF,Option.some.injEq] at h';subst h'
  obtain⟨_,_,_,_,rfl⟩:=cB.1 h
  rfl
 | v::vs,c::cs,us,ws,h,h'=>by
  obtain⟨u,us',h1,h2,rfl⟩:=cB.1 h
  obtain⟨x,xs,h3,h4,rfl⟩:=cB.1 h'
  exact aM h1 (Al h2 h4)
theorem oS {ν:Nu}:∀ (n:Nat){vs cs:List AV}{us ws:List Value},bF ν vs=some us->bF ν cs=some ws->bF ν (aV n vs cs)=some (aV n us ws)
 | 0,vs,cs,us,ws,h,h'=>Al h h'
 | n+1,vs,[],us,ws,h,h'=>by simp only [bF,Option.some.injEq] at h';subst h';rfl
 | n+1,vs,c::cs,us,ws,h,h'=>by
  obtain⟨x,xs,h3,h4,rfl⟩:=cB.1 h'
  exact aM h3 (oS n h h4)
theorem uy {α:Type}:∀ (vs cs:List α),vs.length<=cs.length->(over vs cs).length=cs.length
 | [],cs,_=>rfl
 | v::vs,[],h=>by simp at h
 | v::vs,c::cs,h=>by simp [over,uy vs cs (by simpa using h)]
theorem qi {α:Type}:∀ (n:Nat) (vs cs:List α),n+vs.length<=cs.length->(aV n vs cs).length=cs.length
 | 0,vs,cs,h=>uy vs cs (by simpa using h)
 | n+1,vs,[],h=>by simp at h
 | n+1,vs,c::cs,h=>by simp [aV,qi n vs cs (by simp at h;omega)]
theorem Am {α:Type}:∀ (vs cs rest:List α),vs.length<=cs.length->over vs (cs++rest)=over vs cs++rest
 | [],cs,rest,_=>rfl
 | v::vs,[],rest,h=>by simp at h
 | v::vs,c::cs,rest,h=>by simp [over,Am vs cs rest (by simpa using h)]
theorem uz {α:Type}:∀ (n:Nat) (vs cs rest:List α),n+vs.length<=cs.length->aV n vs (cs++rest)=aV n vs cs++rest
 | 0,vs,cs,rest,h=>Am vs cs rest (by simpa using h)
 | n+1,vs,[],rest,h=>by simp at h
 | n+1,vs,c::cs,rest,h=>by simp [aV,uz n vs cs rest (by simp at h;omega)]
theorem il (ν:Nu) (v:Value):(lift v).val ν=some v:=by
 cases v with
 | int k n=>cases n<;>rfl
 | _=>rfl
theorem iV (ν:Nu):∀ (l:List Value),bF ν (l.map lift)=some l
 | []=>rfl
 | v::l=>aM (il ν v) (iV ν l)
theorem kT {ν:Nu}{a:AV}{v:Value}(h:a.val ν=some v):bF ν (cellsOf a)=some v.cells.toList:=by
 have one:∀ (a:AV) (v:Value),a.val ν=some v->v.cells=#[v]->bF ν [a]=some v.cells.toList:=λa v h h'=>by rw [h'];exact aM h rfl
 cases a with
 | flat u =>
  simp only [AV.val,Option.some.injEq] at h
  subst h
  cases u with
  | agg cs=>simpa [cellsOf,Value.cells] using iV ν cs.toList
  | _=>exact aM rfl rfl
 | agg cs =>
  simp only [AV.val] at h
  cases hc:bF ν cs with
  | none=>rw [hc] at h;cases h
  | some x=>rw [hc] at h;simp only [Option.some.injEq] at h;subst h;simpa [cellsOf,Value.cells] using hc
 | num k n=>simp only [AV.val,Option.some.injEq] at h;subst h;rfl
 | bool b=>simp only [AV.val,Option.some.injEq] at h;subst h;rfl
 | ptr id off =>
  refine one _ _ h ?_
  simp only [AV.val] at h
  split at h<;>simp at h;subst h;rfl
 | sl id off len cap kn =>
  refine one _ _ h ?_
  simp only [AV.val] at h
  (repeat' split at h)<;>simp at h<;>subst h<;>rfl
 | se id off off' sub =>
  refine one _ _ h ?_
  simp only [AV.val] at h
  (repeat' split at h)<;>simp at h<;>subst h<;>rfl
 | mp id =>
  refine one _ _ h ?_
  simp only [AV.val] at h
  split at h<;>simp at h;subst h;rfl
 | fn f a b =>
  refine one _ _ h ?_
  simp only [AV.val] at h
  split at h<;>simp at h;subst h;rfl
 | qU cs =>
  refine one _ _ h ?_
  simp only [AV.val] at h
  split at h<;>simp at h;subst h;rfl
 | yl id =>
  refine one _ _ h ?_
  simp only [AV.val] at h
  split at h<;>simp at h;subst h;rfl
 | LZ t a =>
  refine one _ _ h ?_
  simp only [AV.val] at h
  split at h<;>simp at h;subst h;rfl
theorem Jb {ν:Nu}{a:AV}{v:Value}(h:KG a=some v):a.val ν=some v:=by
 cases a<;>simp [KG] at h<;>subst h<;>rfl
theorem wU {ν:Nu}:∀ {l:List AV}{vs:List Value},Hh l=some vs->bF ν l=some vs
 | [],vs,h=>h
 | a::l,vs,h=>by
  simp only [Hh] at h
  split at h
  ·rename_i v hv
   split at h
   ·rename_i us hu
    simp only [Option.some.injEq] at h
    subst h
    exact aM (Jb hv) (wU hu)
   ·cases h
  ·cases h
theorem lF {ν:Nu}{a:AV}{v:Value}(h:mw a=some v):a.val ν=some v:=by
 cases a with
 | agg cs =>
  simp only [mw] at h
  split at h
  ·rename_i vs hv
   simp only [Option.some.injEq] at h
   subst h
   simp [AV.val,wU (ν:=ν) hv]
  ·cases h
 | _=>simp [mw] at h<;>subst h<;>rfl
def cX (ν:Nu):List (Value×AV×Nat)->Option (List MapEntry)
 | []=>some []
 | e::l=>match e.2.1.val ν,cX ν l with
  | some v,some vs=>some (⟨e.1,v,e.2.2⟩::vs)
  | _,_=>none
theorem wV {ν ν':Nu}(h:ν.le ν'):∀ (l:List (Value×AV×Nat)){vs:List MapEntry},cX ν l=some vs->cX ν' l=some vs
 | [],vs,hv=>hv
 | e::l,vs,hv=>by
  simp only [cX] at hv ⊢
  cases ha:e.2.1.val ν with
  | none=>rw [ha] at hv;cases hv
  | some x =>
   cases hb:cX ν l with
   | none=>rw [ha,hb] at hv;cases hv
   | some y=>rw [AV.eL h _ ha,wV h l hb];rw [ha,hb] at hv;exact hv
def eK.holds (ν:Nu) (k:Nat):eK->Obj->Prop
 | .cells cs,o=>∃ vs T fr,bF ν cs=some vs/\o=.cells vs.toArray T fr/\∀ i,i<vs.length->¬ (fr.1<=i/\i<fr.2)
 | .buf cs z,o=>∃ vs rest T fr,bF ν cs=some vs/\o=.cells (vs++rest).toArray T fr/\(vs++rest).length=k*z/\(∀ i,i<(vs++rest).length->¬ (fr.1<=i/\i<fr.2))/\k<=9223372036854775807
 | .map es clock,o=>∃ l,cX ν es=some l/\o=.map l.toArray clock
 | .iter lk since seen last,o=>∃ p,ν lk=some p/\o=.mapIter (some p.1) since seen.toArray last
 | .Nl s pos,o=>o=.stringIter s pos
 | .loop _ N S ps a b st p,o=>∃ r:Loop,o=.loop r/\(st=0->r.state=.ready)/\(st=2->r.state=.done)/\r.pending=p/\r.params=ps.toArray/\r.assign=a/\r.body=b/\r.tmps.size=N/\∀ k x,S.get k=some x->∃ v,AV.val ν x=some v/\r.tmps.getD k undef=v
theorem eK.lG {ν ν':Nu}(h:ν.le ν'){k:Nat}{o:Obj}:∀ (b:eK),b.holds ν k o->b.holds ν' k o
 | .cells cs,⟨vs,T,fr,h1,h2⟩=>⟨vs,T,fr,dX h cs h1,h2⟩
 | .buf cs z,⟨vs,rest,T,fr,h1,h2⟩=>⟨vs,rest,T,fr,dX h cs h1,h2⟩
 | .map es clock,⟨l,h1,h2⟩=>⟨l,wV h es h1,h2⟩
 | .iter lk since seen last,⟨p,h1,h2⟩=>⟨p,h lk p h1,h2⟩
 | .Nl s pos,hh=>hh
 | .loop _ N S ps a b st p,⟨r,h1,h2,h3,h4,h5,h6,h7,h8,h9⟩=>⟨r,h1,h2,h3,h4,h5,h6,h7,h8,λk x hx=>by
  obtain⟨v,k1,k2⟩:=h9 k x hx
  exact⟨v,AV.eL h x k1,k2⟩⟩
structure Rt (ν:Nu) (m:AM) (w:World):Prop where
 fresh:∀ id,m.next<=id->ν id=none
 at_:∀ id cN,m.get id=some cN->∃ p o,ν id=some p/\w.heap[p.1]?=some o/\cN.holds ν p.2 o
 inj:∀ id id' cN blk' p p',m.get id=some cN->m.get id'=some blk'->ν id=some p->ν id'=some p'->p.1=p'.1->id=id'
def Mem (ν:Nu) (m:AM):bA :=
 ⟨λb=>∃ id cN p,m.get id=some cN/\ν id=some p/\p.1=b,Rt ν m,λw w' h hm =>
  ⟨hm.fresh,λid cN hg=>by
   obtain⟨p,o,h1,h2,h3⟩:=hm.at_ id cN hg
   exact⟨p,o,h1,(h p.1 ⟨id,cN,p,hg,h1,rfl⟩).trans h2,h3⟩,hm.inj⟩⟩
section
variable {ν : Nu} {m : AM} {w w0 : World} {L : List bA}
theorem Rt.K0 (h:Rt ν m w){id:Nat}{cN:eK}(hg:m.get id=some cN):id<m.next:=by
 obtain⟨p,o,h1,_⟩:=h.at_ id cN hg
 apply Nat.lt_of_not_le
 intro hle
 rw [h.fresh id hle] at h1
 cases h1
theorem pI (m:AM) (b:eK) (k:Nat):(m.new b).get k=if k=m.next then some b else m.get k:=Tr.iB _ _ _ _
theorem DT (m:AM) (id:Nat) (b:eK) (k:Nat):(m.set id b).get k=if k=id then some b else m.get k:=Tr.iB _ _ _ _
theorem vd (m:AM) (id k:Nat):(m.del id).get k=if k=id then none else m.get k:=Tr.iB _ _ _ _
theorem St.K1 (hs:St w0 (Mem ν m::L) w) (b:eK) (o:Obj) (cap:Nat) (hb:b.holds (ν.add m.next (w.heap.size,cap)) cap o) :
 St w0 (Mem (ν.add m.next (w.heap.size,cap)) (m.new b)::L) { w with heap:=w.heap.push o }/\ν.le (ν.add m.next (w.heap.size,cap)):=by
 have hm:Rt ν m w:=hs.holds _ (List.mem_cons_self ..)
 have hle:ν.le (ν.add m.next (w.heap.size,cap)):=Nu.nk (hm.fresh _ (Nat.le_refl _))
 refine⟨St.step hs rfl rfl rfl zw (λk hk _=>by simp only [Array.getElem?_push];rw [if_neg za]) ⟨?_,?_,?_⟩ ?_,hle⟩
 ·intro id hid
  have:m.next+1<=id:=hid
  rw [Nu.add,if_neg za]
  exact hm.fresh id za
 ·intro id cN hg
  rw [pI] at hg
  by_cases e:id=m.next
  ·subst e
   rw [if_pos rfl] at hg
   cases hg
   exact⟨_,o,Nu.bV _ _ _,by simp,hb⟩
  ·rw [if_neg e] at hg
   obtain⟨p,o',h1,h2,h3⟩:=hm.at_ id cN hg
   refine⟨p,o',hle id p h1,?_,eK.lG hle _ h3⟩
   have:=(Array.getElem?_eq_some_iff.1 h2).1
   simp only [Array.getElem?_push]
   rw [if_neg za]
   exact h2
 ·intro id id' cN blk' p p' hg hg' hp hp' he
  rw [pI] at hg hg'
  have key:∀ (id:Nat) (cN:eK) (p:Nat×Nat),id≠m.next->m.get id=some cN->(ν.add m.next (w.heap.size,cap)) id=some p->p.1<w.heap.size/\ν id=some p:=by
   intro id cN p hne hg hp
   rw [Nu.add,if_neg hne] at hp
   obtain⟨q,o',h1,h2,_⟩:=hm.at_ id cN hg
   rw [hp] at h1
   cases h1
   exact⟨(Array.getElem?_eq_some_iff.1 h2).1,hp⟩
  by_cases e:id=m.next
  ·by_cases e':id'=m.next
   ·rw [e,e']
   ·rw [if_neg e'] at hg'
    obtain⟨h1,_⟩:=key id' blk' p' e' hg' hp'
    subst e
    rw [Nu.bV] at hp
    cases hp
    simp only at he
    omega
  ·rw [if_neg e] at hg
   obtain⟨h1,h2⟩:=key id cN p e hg hp
   by_cases e':id'=m.next
   ·subst e'
    rw [Nu.bV] at hp'
    cases hp'
    simp only at he
    omega
   ·rw [if_neg e'] at hg'
    obtain⟨_,h3⟩:=key id' blk' p' e' hg' hp'
    exact hm.inj id id' cN blk' p p' hg hg' h2 h3 he
 ·intro b' hb'
  obtain⟨id,cN,p,hg,hp,rfl⟩:=hb'
  rw [pI] at hg
  by_cases e:id=m.next
  ·subst e
   rw [Nu.bV] at hp
   cases hp
   exact⟨.inr (Nat.le_refl _),by simp⟩
  ·rw [if_neg e] at hg
   rw [Nu.add,if_neg e] at hp
   obtain⟨q,o',h1,h2,_⟩:=hm.at_ id cN hg
   rw [hp] at h1
   cases h1
   have:=(Array.getElem?_eq_some_iff.1 h2).1
   exact⟨.inl ⟨id,cN,p,hg,hp,rfl⟩,by simp;omega⟩
theorem St.BK (hs:St w0 (Mem ν m::L) w){id:Nat}{cN blk':eK}{p:Nat×Nat}(hg:m.get id=some cN) (hp:ν id=some p) (o:Obj) (hb:blk'.holds ν p.2 o) :
 St w0 (Mem ν (m.set id blk')::L) { w with heap:=w.heap.setIfInBounds p.1 o }:=by
 have hm:Rt ν m w:=hs.holds _ (List.mem_cons_self ..)
 have hlt:p.1<w.heap.size:=by
  obtain⟨q,o',h1,h2,_⟩:=hm.at_ id cN hg
  rw [hp] at h1
  cases h1
  exact(Array.getElem?_eq_some_iff.1 h2).1
 have old:∀ (k:Nat) (b:eK),(m.set id blk').get k=some b->∃ b',m.get k=some b':=by
  intro k b h
  rw [DT] at h
  by_cases e:k=id
  ·subst e;exact⟨cN,hg⟩
  ·rw [if_neg e] at h;exact⟨b,h⟩
 refine St.step hs rfl rfl rfl zw (λk hk hn=>?_) ⟨hm.fresh,?_,?_⟩ ?_
 ·simp only [Array.getElem?_setIfInBounds]
  rw [if_neg (λe=>hn ⟨id,cN,p,hg,hp,e⟩)]
 ·intro k b h
  rw [DT] at h
  by_cases e:k=id
  ·subst e
   rw [if_pos rfl] at h
   cases h
   exact⟨p,o,hp,by simp [hlt],hb⟩
  ·rw [if_neg e] at h
   obtain⟨q,o',h1,h2,h3⟩:=hm.at_ k b h
   refine⟨q,o',h1,?_,h3⟩
   simp only [Array.getElem?_setIfInBounds]
   rw [if_neg (λe'=>e (hm.inj k id b cN q p h hg h1 hp e'.symm))]
   exact h2
 ·intro k k' b b' q q' h h' hq hq' he
  obtain⟨c,hc⟩:=old k b h
  obtain⟨c',hc'⟩:=old k' b' h'
  exact hm.inj k k' c c' q q' hc hc' hq hq' he
 ·intro b' hb'
  obtain⟨k,b,q,h,hq,rfl⟩:=hb'
  obtain⟨c,hc⟩:=old k b h
  refine⟨.inl ⟨k,c,q,hc,hq,rfl⟩,?_⟩
  obtain⟨q',o',h1,h2,_⟩:=hm.at_ k c hc
  rw [hq] at h1
  cases h1
  have:=(Array.getElem?_eq_some_iff.1 h2).1
  simpa using this
theorem St.O8 (hs:St w0 (Mem ν m::L) w) (id:Nat):St w0 (Mem ν (m.del id)::L) w:=by
 have hm:Rt ν m w:=hs.holds _ (List.mem_cons_self ..)
 have old:∀ (k:Nat) (b:eK),(m.del id).get k=some b->m.get k=some b:=by
  intro k b h
  rw [vd] at h
  by_cases e:k=id
  ·rw [if_pos e] at h;cases h
  ·rw [if_neg e] at h;exact h
 refine St.conv hs (λ_=>⟨hm.fresh,λk b h=>hm.at_ k b (old k b h),λk k' b b' q q' h h'=>hm.inj k k' b b' q q' (old k b h) (old k' b' h')⟩) ?_
 rintro b' ⟨k,b,q,h,hq,rfl⟩
 exact⟨k,b,q,old k b h,hq,rfl⟩
theorem St.Nw (hs:St w0 (Mem ν m::L) w){id:Nat}{cN blk':eK}{p:Nat×Nat}(hg:m.get id=some cN) (hp:ν id=some p) (o:Obj) (hb:blk'.holds (ν.add m.next p) p.2 o) :
 St w0 (Mem (ν.add m.next p) ((m.del id).new blk')::L) { w with heap:=w.heap.setIfInBounds p.1 o }/\ν.le (ν.add m.next p):=by
 have hm:Rt ν m w:=hs.holds _ (List.mem_cons_self ..)
 have hle:ν.le (ν.add m.next p):=Nu.nk (hm.fresh _ (Nat.le_refl _))
 have hlt:p.1<w.heap.size:=by
  obtain⟨q,o',h1,h2,_⟩:=hm.at_ id cN hg
  rw [hp] at h1
  cases h1
  exact(Array.getElem?_eq_some_iff.1 h2).1
 have hidn:=hm.K0 hg
 have look:∀ (k:Nat) (b:eK),((m.del id).new blk').get k=some b->(k=m.next/\b=blk')\/(k≠m.next/\k≠id/\m.get k=some b):=by
  intro k b h
  rw [pI] at h
  by_cases e:k=m.next
  ·have e':k=(m.del id).next:=e
   rw [if_pos e'] at h;cases h;exact .inl ⟨e,rfl⟩
  ·have e':¬ k=(m.del id).next:=e
   rw [if_neg e',vd] at h
   by_cases e2:k=id
   ·rw [if_pos e2] at h;cases h
   ·rw [if_neg e2] at h;exact .inr ⟨e,e2,h⟩
 refine⟨St.step hs rfl rfl rfl zw (λk hk hn=>?_) ⟨?_,?_,?_⟩ ?_,hle⟩
 ·simp only [Array.getElem?_setIfInBounds]
  rw [if_neg (λe=>hn ⟨id,cN,p,hg,hp,e⟩)]
 ·intro k hk
  have:m.next+1<=k:=hk
  rw [Nu.add,if_neg za]
  exact hm.fresh k za
 ·intro k b h
  rcases look k b h with⟨rfl,rfl⟩|⟨e1,e2,h⟩
  ·exact⟨p,o,Nu.bV _ _ _,by simp [hlt],hb⟩
  ·obtain⟨q,o',h1,h2,h3⟩:=hm.at_ k b h
   refine⟨q,o',hle k q h1,?_,eK.lG hle _ h3⟩
   simp only [Array.getElem?_setIfInBounds]
   rw [if_neg (λe'=>e2 (hm.inj k id b cN q p h hg h1 hp e'.symm))]
   exact h2
 ·intro k k' b b' q q' h h' hq hq' he
  rcases look k b h with⟨e0,-⟩|⟨e1,e2,hh⟩
  ·rcases look k' b' h' with⟨e0',-⟩|⟨e3,e4,hh'⟩
   ·rw [e0,e0']
   ·rw [e0,Nu.bV] at hq
    cases hq
    rw [Nu.add,if_neg e3] at hq'
    exact absurd (hm.inj k' id b' cN q' p hh' hg hq' hp he.symm) e4
  ·rw [Nu.add,if_neg e1] at hq
   rcases look k' b' h' with⟨e0',-⟩|⟨e3,e4,hh'⟩
   ·rw [e0',Nu.bV] at hq'
    cases hq'
    exact absurd (hm.inj k id b cN q p hh hg hq hp he) e2
   ·rw [Nu.add,if_neg e3] at hq'
    exact hm.inj k k' b b' q q' hh hh' hq hq' he
 ·intro b' hb'
  obtain⟨k,b,q,h,hq,rfl⟩:=hb'
  rcases look k b h with⟨rfl,rfl⟩|⟨e1,e2,h⟩
  ·rw [Nu.bV] at hq
   cases hq
   exact⟨.inl ⟨id,cN,p,hg,hp,rfl⟩,by simpa using hlt⟩
  ·rw [Nu.add,if_neg e1] at hq
   obtain⟨q',o',h1,h2,_⟩:=hm.at_ k b h
   rw [hq] at h1
   cases h1
   have:=(Array.getElem?_eq_some_iff.1 h2).1
   exact⟨.inl ⟨k,b,q,h,hq,rfl⟩,by simpa using this⟩
end
end Go.Ev
namespace Go.Ev
open Go.Sx
set_option linter.unusedVariables false
set_option linter.unusedSimpArgs false
structure bP (δ:List Deferred) (ν:Nu) (N:Nat) (S:AE) (a:Act):Prop where
 defers:a.defers=δ
 size:a.tmps.size=N
 at_:∀ k x,S.get k=some x->∃ v,x.val ν=some v/\a.tmps.getD k undef=v
def Glob (G:Nat->Option (List Value)) (w:World):Prop:=∀ g vs,G g=some vs->∀ i,i<vs.length->w.cell? ⟨g,i,none⟩=vs[i]?
section
variable {δ : List Deferred} {P : Program} {G : Nat -> Option (List Value)} {ν : Nu} {N : Nat} {S : AE} {a : Act} {m : AM} {w : World}
theorem bP.mono {ν':Nu}(h:bP δ ν N S a) (hle:ν.le ν'):bP δ ν' N S a :=
 ⟨h.defers,h.size,λk x hx=>by obtain⟨v,h1,h2⟩:=h.at_ k x hx;exact⟨v,AV.eL hle x h1,h2⟩⟩
theorem bP.op (hf:bP δ ν N S a){x:Operand}{av:AV}(h:cC S x=some av):∃ v,av.val ν=some v/\a.eval x=v:=by
 cases x with
 | tmp t=>exact hf.at_ t av h
 | const c =>
  simp only [cC,Option.some.injEq] at h
  subst h
  exact⟨c,il ν c,rfl⟩
 | global g =>
  simp only [cC,Option.some.injEq] at h
  subst h
  exact⟨_,rfl,rfl⟩
 | func f =>
  simp only [cC,Option.some.injEq] at h
  subst h
  exact⟨_,rfl,rfl⟩
theorem bP.ops (hf:bP δ ν N S a):∀ {l:List Operand}{avs:List AV},jX S l=some avs->bF ν avs=some (l.map a.eval)
 | [],avs,h=>by simp only [jX,Option.some.injEq] at h;subst h;rfl
 | x::l,avs,h=>by
  simp only [jX] at h
  split at h
  ·rename_i b hb
   split at h
   ·rename_i bs hbs
    simp only [Option.some.injEq] at h
    subst h
    obtain⟨v,h1,h2⟩:=hf.op hb
    simp only [List.map_cons,h2]
    exact aM h1 (bP.ops hf hbs)
   ·cases h
  ·cases h
theorem K2 (hf:bP δ ν N S a){x:Operand}{av:AV}{v:Value}(h:cC S x=some av) (hv:mw av=some v):a.eval x=Hi S x:=by
 obtain⟨u,h1,h2⟩:=hf.op h
 have h3:=lF (ν:=ν) hv
 rw [h1] at h3
 cases h3
 simp only [Hi,h,hv,h2]
theorem wW (hf:bP δ ν N S a):∀ {l:List Operand},rR S l=true->∀ x∈l,a.eval x=Hi S x
 | y::l,h,x,hx=>by
  simp only [rR] at h
  split at h
  ·rename_i b hb
   split at h
   ·rename_i v hv
    rcases List.mem_cons.1 hx with rfl|hx
    ·exact K2 hf hb hv
    ·exact wW hf h x hx
   ·cases h
  ·cases h
theorem jY (hf:bP δ ν N S a){o:Oper}{av:AV}(h:oK P S o=some av) (w:World):∃ v,av.val ν=some v/\(execOp a.eval o).run P w=.ok (.value v) w:=by
 unfold oK at h
 cases hs:nT o.op with
 | true=>rw [hs] at h;cases h
 | false =>
  rw [hs] at h
  cases hp:rR S o.op.operands.toList with
  | false=>rw [hp] at h;cases h
  | true =>
   rw [hp] at h
   simp only [cond_true,cond_false] at h
   split at h
   ·rename_i ns v hd
    split at h
    ·simp only [Option.some.injEq] at h
     subst h
     refine⟨v,il ν v,?_⟩
     rw [execOp_congr o (λcs b e=>by rw [e] at hs;simp [nT] at hs) λx hx=>wW hf hp x (Array.mem_toList_iff.2 hx)]
     exact tT _ _ _ _ hd trivial
    ·cases h
   ·cases h
theorem fL (hf:bP δ ν N S a){o:Oper}{r:Option AV}{av:AV}(h:jD P S o r=some av) (w:World)
 (hr:r=some av->∃ v,av.val ν=some v/\(execOp a.eval o).run P w=.ok (.value v) w):∃ v,av.val ν=some v/\(execOp a.eval o).run P w=.ok (.value v) w:=by
 unfold jD at h
 cases r with
 | some b=>exact hr (by simpa using h)
 | none=>exact jY hf h w
theorem kU (hm:Rt ν m w){id:Nat}{cs:List AV}(h:kQ m id=some cs) :
 ∃ p vs rest T fr,ν id=some p/\bF ν cs=some vs/\w.heap[p.1]?=some (.cells (vs++rest).toArray T fr)/\∀ i,i<(vs++rest).length->¬ (fr.1<=i/\i<fr.2):=by
 unfold kQ at h
 split at h
 ·rename_i cs' hg
  simp only [Option.some.injEq] at h
  subst h
  obtain⟨p,o,h1,h2,vs,T,fr,h3,rfl,h4⟩:=hm.at_ id _ hg
  exact⟨p,vs,[],T,fr,h1,h3,by simpa using h2,by simpa using h4⟩
 ·rename_i cs' z hg
  simp only [Option.some.injEq] at h
  subst h
  obtain⟨p,o,h1,h2,vs,rest,T,fr,h3,rfl,h4,h5⟩:=hm.at_ id _ hg
  exact⟨p,vs,rest,T,fr,h1,h3,h2,h5.1⟩
 ·cases h
theorem cell_of {w:World}{b:Nat}{vs rest:List Value}{T:TypeId}{fr:Nat×Nat}(h:w.heap[b]?=some (.cells (vs++rest).toArray T fr)){i:Nat}(hi:i<vs.length):w.cell? ⟨b,i,none⟩=vs[i]?:=by
 simp only [World.cell?,h]
 simp [List.getElem?_append_left hi]
theorem K3 {cs l:List AV}{off n:Nat}(h:KH cs off n=some l):off+n<=cs.length/\l=(cs.drop off).take n:=by
 unfold KH at h
 cases hb:Nat.ble (off+n) cs.length with
 | false=>rw [hb] at h;cases h
 | true =>
  rw [hb] at h
  simp only [cond_true,Option.some.injEq] at h
  exact⟨Nat.le_of_ble_eq_true hb,h.symm⟩
theorem rX {cs l:List AV}{vs:List Value}{off n:Nat}(h:KH cs off n=some l) (hv:bF ν cs=some vs):bF ν l=some ((vs.drop off).take n)/\off+n<=vs.length:=by
 obtain⟨h1,rfl⟩:=K3 h
 exact⟨sW n (Ak off hv),by rw [cO hv];exact h1⟩
theorem rY {t:TypeId}{n:Nat}(h:nf P t=some (some n)):(∀ w,(isAgg t).run P w=.ok true w)/\∃ ti,P.info? t=some ti/\ti.size=n:=by
 unfold nf at h
 split at h
 ·rename_i fs hu
  cases hi:P.info? t with
  | none=>rw [hi] at h;cases h
  | some ti=>rw [hi] at h;simp only [Option.some.injEq] at h;exact⟨λw=>qX hu w,ti,rfl,h⟩
 ·rename_i k e hu
  cases hi:P.info? t with
  | none=>rw [hi] at h;cases h
  | some ti=>rw [hi] at h;simp only [Option.some.injEq] at h;exact⟨λw=>tU hu w,ti,rfl,h⟩
 ·cases h
 ·cases h
theorem rZ {t:TypeId}(h:nf P t=some none) (w:World):(isAgg t).run P w=.ok false w:=by
 unfold nf at h
 split at h
 ·split at h<;>cases h
 ·split at h<;>cases h
 ·rename_i d h1 h2 hu
  simp only [isAgg,Sem.run_bind,run_underlying hu,Result.andThen_ok]
  cases d<;>first|rfl|(exact absurd rfl (h1 _))|(exact absurd rfl (h2 _ _))
 ·cases h
theorem wX {t:TypeId}{cs:List AV}{vs:List Value}{off:Nat}{av:AV}(h:rS P t cs off=some av) (hv:bF ν cs=some vs) (w:World) :
 ∃ v,av.val ν=some v/\(part t vs.toArray off).run P w=.ok v w:=by
 unfold rS at h
 split at h
 ·rename_i n hn
  split at h
  ·rename_i l hl
   simp only [Option.some.injEq] at h
   subst h
   obtain⟨h1,ti,h2,h3⟩:=rY hn
   obtain⟨h4,h5⟩:=rX hl hv
   refine⟨.agg ((vs.drop off).take n).toArray,by simp [AV.val,h4],?_⟩
   simp only [part,Sem.run_bind,h1,Result.andThen_ok,if_true,sizeOf,typeInfo,run_program,h2,Sem.run_pure]
   congr 2
   apply Array.ext'
   rw [Array.toList_extract,List.extract_eq_take_drop]
   simp [h3]
  ·cases h
 ·rename_i hn
  obtain⟨v,h1,h2⟩:=mK hv h
  refine⟨v,h1,?_⟩
  have h3:vs.toArray[off]?=some v:=by simpa using h2
  simp only [part,Sem.run_bind,rZ hn,Result.andThen_ok,Bool.false_eq_true,if_false,h3,Sem.run_pure]
 ·cases h
theorem wY {t:TypeId}{cs:List AV}{vs:List Value}{off b:Nat}{av:AV}(h:rS P t cs off=some av) (hv:bF ν cs=some vs){w:World}(hc:∀ i,i<vs.length->w.cell? ⟨b,i,none⟩=vs[i]?) :
 ∃ v,av.val ν=some v/\(loadVar t ⟨b,off,none⟩).run P w=.ok v w:=by
 unfold rS at h
 split at h
 ·rename_i n hn
  split at h
  ·rename_i l hl
   simp only [Option.some.injEq] at h
   subst h
   obtain⟨h1,ti,h2,h3⟩:=rY hn
   obtain⟨h4,h5⟩:=rX hl hv
   refine⟨.agg ((vs.drop off).take n).toArray,by simp [AV.val,h4],?_⟩
   refine nE h2 h1 _ _ ?_ ?_
   ·rw [h3]
    simp only [List.size_toArray,List.length_take,List.length_drop]
    omega
   ·intro i hi
    simp only [List.size_toArray,List.length_take,List.length_drop] at hi
    rw [dI,hc (off+i) za]
    simp only [List.getElem?_toArray]
    rw [List.getElem?_take,if_pos za,List.getElem?_drop]
  ·cases h
 ·rename_i hn
  obtain⟨v,h1,h2⟩:=mK hv h
  refine⟨v,h1,?_⟩
  have hlt:off<vs.length:=(List.getElem?_eq_some_iff.1 h2).1
  have h3:w.cell? ⟨b,off,none⟩=some v:=(hc off hlt).trans h2
  simp only [loadVar,Sem.run_bind,rZ hn,Result.andThen_ok,Bool.false_eq_true,if_false]
  simp [load,Sem.run,h3]
 ·cases h
theorem lX (hm:Rt ν m w) (hG:Glob G w){t:TypeId}{x av:AV}{u:Value}(hx:x.val ν=some u) (h:qg P G m t x=some av):∃ ad v,u=.pointer (some ad)/\av.val ν=some v/\(loadVar t ad).run P w=.ok v w:=by
 unfold qg at h
 split at h
 ·rename_i id off
  split at h
  ·rename_i cs hc
   obtain⟨p,vs,rest,T,fr,h1,h2,h3,h4⟩:=kU hm hc
   simp only [AV.val,h1,Option.some.injEq] at hx
   subst hx
   obtain⟨v,h5,h6⟩:=wY h h2 (b:=p.1) λi hi=>cell_of h3 hi
   exact⟨_,v,rfl,h5,h6⟩
  ·cases h
 ·rename_i g off
  simp only [AV.val,Option.some.injEq] at hx
  subst hx
  split at h
  ·rename_i vs hg
   obtain⟨v,h5,h6⟩:=wY h (iV ν vs) (b:=g) (λi hi=>hG g vs hg i hi)
   exact⟨_,v,rfl,h5,h6⟩
  ·cases h
 ·cases h
theorem run_load {o:Oper}{t:TypeId}{x:Operand}(ho:o.op=.load t x){ρ:Operand->Value}{ad:Addr}{v:Value}(hx:ρ x=.pointer (some ad)) (h:(loadVar t ad).run P w=.ok v w):(execOp ρ o).run P w=.ok (.value v) w:=by
 simp only [execOp,ho,Instr.loadAt,hx,Instr.sureAddr,Sem.run_bind,Sem.run_pure,Result.andThen_ok,h]
theorem An {k:IntKind}{n:Nat}{av:AV}(h:yu k n=some av):av.val ν=some (.int k (k.wrap (n:Int))):=by
 have wr:∀ (k:IntKind) (z:Int),AV.val ν (.num k z.toNat)=some (.int k (Int.ofNat z.toNat)):=λ_ _=>rfl
 cases k<;>simp only [yu,pH] at h
 case i8=>cases h
 case i16=>cases h
 case i32 =>
  cases hb:Nat.ble n 2147483647 with
  | false=>rw [hb] at h;cases h
  | true =>
   rw [hb] at h
   have h1:=Nat.le_of_ble_eq_true hb
   simp only [cond_true,Option.some.injEq] at h
   subst h
   have:IntKind.i32.wrap (n:Int)=(n:Int):=by
    have e:(n:Int) % 4294967296=n:=Int.emod_eq_of_lt za za
    have e2:¬ ((2147483648:Int)<=(n:Int)):=za
    simp [IntKind.wrap,IntKind.bits,IntKind.signed,e,e2]
   rw [this];rfl
 case i64 =>
  cases hb:Nat.ble n 9223372036854775807 with
  | false=>rw [hb] at h;cases h
  | true =>
   rw [hb] at h
   have h1:=Nat.le_of_ble_eq_true hb
   simp only [cond_true,Option.some.injEq] at h
   subst h
   have:IntKind.i64.wrap (n:Int)=(n:Int):=uP za za
   rw [this];rfl
 all_goals
  simp only [Option.some.injEq] at h
  subst h
  simp only [AV.val,Option.some.injEq,Value.int.injEq,true_and]
  simp [IntKind.wrap,IntKind.bits,IntKind.signed]
theorem jZ {k:IntKind}{z:Int}{n:Nat}{av:AV}(h:yu k n=some av) (hz:z=(n:Int)):av.val ν=some (.int k (k.wrap z)):=by rw [hz];exact An h
theorem pJ {k:IntKind}{M:Nat}(h:KO k=some M):M=2 ^ k.bits/\k.signed=false:=by
 cases k<;>simp [KO] at h<;>subst h<;>exact⟨zb,rfl⟩
theorem K4 {k:IntKind}{M n:Nat}(h:KO k=some M) (hn:n<M):k.wrap (n:Int)=(n:Int):=by
 obtain⟨h1,h2⟩:=pJ h
 subst h1
 simp only [IntKind.wrap,h2,Bool.false_and]
 have:((n:Int) % (2 ^ k.bits:Int))=(n:Int):=Int.emod_eq_of_lt za (by exact_mod_cast hn)
 simpa using this
theorem qD {k:IntKind}{x y r:Nat}{av:AV}(h:uw k x y r=some av):∃ M,KO k=some M/\x<M/\y<M/\av=.num k r:=by
 unfold uw at h
 split at h
 ·rename_i M hM
  cases hb:(Nat.ble (x+1) M && Nat.ble (y+1) M) with
  | false=>rw [hb] at h;cases h
  | true =>
   rw [hb] at h
   simp only [Bool.and_eq_true] at hb
   simp only [cond_true,pH,Option.some.injEq] at h
   have h1:=Nat.le_of_ble_eq_true hb.1
   have h2:=Nat.le_of_ble_eq_true hb.2
   exact⟨M,hM,za,za,h.symm⟩
 ·cases h
theorem jg {k:IntKind}{n:Nat}(h:n<2 ^ k.bits):(BitVec.ofInt k.bits (n:Int)).toNat=n:=by
 simp only [BitVec.ofInt_natCast,BitVec.toNat_ofNat]
 exact Nat.mod_eq_of_lt h
theorem sd (x y:Nat):Nat.beq x y=decide (x=y):=by
 cases h:Nat.beq x y with
 | true=>rw [decide_eq_true (Nat.eq_of_beq_eq_true h)]
 | false=>rw [decide_eq_false (Nat.ne_of_beq_eq_false h)]
theorem sf (x y:Nat):Nat.ble x y=decide (x<=y):=by
 cases h:Nat.ble x y with
 | true=>rw [decide_eq_true (Nat.le_of_ble_eq_true h)]
 | false=>rw [decide_eq_false λhle=>by rw [Nat.ble_eq_true_of_le hle] at h;cases h]
theorem O9 (x y:Nat):(Int.ofNat x == Int.ofNat y)=Nat.beq x y:=by
 rw [sd,Bool.eq_iff_iff]
 simp only [beq_iff_eq,decide_eq_true_eq]
 exact⟨λh=>Int.ofNat.inj h,λh=>h▸rfl⟩
theorem BL {op:BinOp}{k:IntKind}{x y:Nat}{av:AV}(hs:op≠.shl/\op≠.shr) (t:TypeId) (h:BA op k x y=some av):∃ v,av.val ν=some v/\binOp op t (.int k (.ofNat x)) (.int k (.ofNat y))=.pure v:=by
 cases op<;>simp only [BA] at h
 case shl=>exact absurd rfl hs.1
 case shr=>exact absurd rfl hs.2
 case add=>exact⟨_,jZ h (z:=Int.ofNat x+Int.ofNat y) rfl,by simp [binOp,Op.intArith];rfl⟩
 case sub =>
  cases hb:Nat.ble y x with
  | false=>rw [hb] at h;cases h
  | true =>
   rw [hb] at h
   have h1:=Nat.le_of_ble_eq_true hb
   exact⟨_,jZ h (z:=Int.ofNat x-Int.ofNat y) (by simp only [Int.ofNat_eq_natCast];omega),by simp [binOp,Op.intArith];rfl⟩
 case mul=>exact⟨_,jZ h (z:=Int.ofNat x*Int.ofNat y) rfl,by simp [binOp,Op.intArith];rfl⟩
 case eql =>
  cases h
  refine⟨_,rfl,?_⟩
  simp only [binOp,Op.intCmp,ne_eq,not_true_eq_false,if_false,O9]
  rfl
 case neq =>
  cases h
  refine⟨_,rfl,?_⟩
  simp only [binOp,Op.intCmp,ne_eq,not_true_eq_false,if_false,bne,O9]
  rfl
 case lss=>cases h;exact⟨_,rfl,by simp [binOp,Op.intCmp,sf,Nat.succ_le_iff];rfl⟩
 case leq=>cases h;exact⟨_,rfl,by simp [binOp,Op.intCmp,sf];rfl⟩
 case gtr=>cases h;exact⟨_,rfl,by simp [binOp,Op.intCmp,sf,Nat.succ_le_iff];rfl⟩
 case geq=>cases h;exact⟨_,rfl,by simp [binOp,Op.intCmp,sf];rfl⟩
 case and =>
  obtain⟨M,hM,hx,hy,rfl⟩:=qD h
  obtain⟨rfl,h2⟩:=pJ hM
  refine⟨_,rfl,?_⟩
  simp only [binOp,Op.intBits,ne_eq,not_true_eq_false,if_false,Int.ofNat_eq_natCast,BitVec.toNat_and,jg hx,jg hy]
  rw [K4 hM (Nat.lt_of_le_of_lt Nat.and_le_left hx)]
  rfl
 case or =>
  obtain⟨M,hM,hx,hy,rfl⟩:=qD h
  obtain⟨rfl,h2⟩:=pJ hM
  refine⟨_,rfl,?_⟩
  simp only [binOp,Op.intBits,ne_eq,not_true_eq_false,if_false,Int.ofNat_eq_natCast,BitVec.toNat_or,jg hx,jg hy]
  rw [K4 hM (Nat.or_lt_two_pow hx hy)]
  rfl
 case xor =>
  obtain⟨M,hM,hx,hy,rfl⟩:=qD h
  obtain⟨rfl,h2⟩:=pJ hM
  refine⟨_,rfl,?_⟩
  simp only [binOp,Op.intBits,ne_eq,not_true_eq_false,if_false,Int.ofNat_eq_natCast,BitVec.toNat_xor,jg hx,jg hy]
  rw [K4 hM (Nat.xor_lt_two_pow hx hy)]
  rfl
 case quo =>
  cases hb:Nat.beq y 0 with
  | true=>rw [hb] at h;cases h
  | false =>
   rw [hb] at h
   have h1:=Nat.ne_of_beq_eq_false hb
   refine⟨_,jZ h (z:=(Int.ofNat x).tdiv (Int.ofNat y)) rfl,?_⟩
   have h2:¬ (Int.ofNat y=0):=by simp only [Int.ofNat_eq_natCast];omega
   simp only [binOp,Op.intDiv,ne_eq,not_true_eq_false,if_false,h2]
   rfl
 case rem =>
  cases hb:Nat.beq y 0 with
  | true=>rw [hb] at h;cases h
  | false =>
   rw [hb] at h
   have h1:=Nat.ne_of_beq_eq_false hb
   simp only [cond_false,pH,Option.some.injEq] at h
   subst h
   have h2:¬ (Int.ofNat y=0):=by simp only [Int.ofNat_eq_natCast];omega
   refine⟨_,rfl,?_⟩
   simp only [binOp,Op.intDiv,ne_eq,not_true_eq_false,if_false,h2]
   rfl
 all_goals cases h
theorem qE {k k':IntKind}(h:Nat.beq (dG k) (dG k')=true):k=k':=by
 cases k<;>cases k' <;> first|rfl|(exact absurd h zb)
theorem BM {op:BinOp}{k k':IntKind}{x y:Nat}{av:AV}(t:TypeId) (h:qA op k x k' y=some av):∃ v,av.val ν=some v/\binOp op t (.int k (.ofNat x)) (.int k' (.ofNat y))=.pure v:=by
 by_cases h1:op=.shl
 ·subst h1
  simp only [qA] at h
  refine⟨_,jZ h (z:=Int.ofNat x*2 ^ (min (Int.ofNat y).toNat k.bits)) zw,?_⟩
  have h2:¬ (Int.ofNat y<0):=by simp only [Int.ofNat_eq_natCast];omega
  simp only [binOp,Op.shift,h2,if_false]
  rfl
 by_cases h2:op=.shr
 ·subst h2
  simp only [qA,pH,Option.some.injEq] at h
  subst h
  have h2:¬ (Int.ofNat y<0):=by simp only [Int.ofNat_eq_natCast];omega
  refine⟨_,rfl,?_⟩
  simp only [binOp,Op.shift,h2,if_false]
  have h3:(Int.ofNat x).fdiv (2 ^ (min (Int.ofNat y).toNat k.bits))=Int.ofNat (x / 2 ^ (min y k.bits)):=by
   have e:(2 ^ (min (Int.ofNat y).toNat k.bits):Int)=((2 ^ (min y k.bits):Nat):Int):=by simp
   rw [e,Int.fdiv_eq_ediv_of_nonneg _ (Int.natCast_nonneg _)]
   rfl
  rw [h3]
  rfl
 have h3:qA op k x k' y=bif Nat.beq (dG k) (dG k') then BA op k x y else none:=by
  cases op<;>first|rfl|(exact absurd rfl h1)|(exact absurd rfl h2)
 rw [h3] at h
 cases hb:Nat.beq (dG k) (dG k') with
 | false=>rw [hb] at h;cases h
 | true =>
  rw [hb] at h
  obtain rfl:=qE hb
  exact BL ⟨h1,h2⟩ t h
theorem Gm {op:BinOp}{x y av:AV}{u u':Value}(hx:x.val ν=some u) (hy:y.val ν=some u') (t:TypeId) (h:KP op x y=some av) :
 ∃ k k' n n' v,u=.int k n/\u'=.int k' n'/\av.val ν=some v/\binOp op t u u'=.pure v:=by
 unfold KP at h
 split at h
 ·rename_i k n
  split at h
  ·rename_i k' n'
   simp only [AV.val,Option.some.injEq] at hx hy
   subst hx hy
   obtain⟨v,h1,h2⟩:=BM (ν:=ν) t h
   exact⟨k,k',_,_,v,rfl,rfl,h1,h2⟩
  ·cases h
 ·cases h
theorem DU {o:Oper}{op:BinOp}{t t':TypeId}{x y:Operand}(ho:o.op=.binOp op t x y t'){ρ:Operand->Value}{k k':IntKind}{n n':Int}{v:Value}(hx:ρ x=.int k n) (hy:ρ y=.int k' n') (h:binOp op t (.int k n) (.int k' n')=.pure v) (w:World) :
 (execOp ρ o).run P w=.ok (.value v) w:=by
 have hg:(eqGuard op t x y (.int k n) (.int k' n')).run P w=.ok () w:=by
  unfold eqGuard
  split<;>simp
 simp only [execOp,ho,hx,hy,Sem.run_bind,hg,Result.andThen_ok,h]
 rfl
end
end Go.Ev
