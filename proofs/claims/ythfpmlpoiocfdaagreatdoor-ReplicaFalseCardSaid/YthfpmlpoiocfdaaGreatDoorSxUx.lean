/-
  Several texts in one: SxCC, SxCD, SxG, SxH, SxI, SxCE, SxJ.
-/
import Derived.Test.YthfpmlpoiocfdaaGreatDoorSxTx
namespace Go.Sx
open Go.RowKit
set_option linter.unusedVariables false
abbrev zP (b o:Nat):Value:=.pointer (some ⟨b,o,none⟩)
abbrev zL (b o n c:Nat):Value:=.slice (some ⟨b,o,none⟩) n c
def JH (i:Nat):List (Nat×Hint)->Hint
 | []=>.gen []
 | x::l=>bif Nat.beq x.1 i then x.2 else JH i l
def L3 (ex:List (Nat×Hint)):Nat->Nat->List (Nat×Hint)
 | _,0=>[]
 | a,n+1=>(a,JH a ex)::L3 ex (a+1) n
def JI:Nat->Nat->PT->PT
 | _,0,r=>r
 | a,n+1,r=>.rd a (JI (a+1) n r)
theorem GF (ex:List (Nat×Hint)) (r:PT):∀ (n a:Nat),gE ((L3 ex a n).map λx=>x.1) r=JI a n r
 | 0,_=>rfl
 | n+1,a=>congrArg (PT.rd a) (GF ex r n (a+1))
def H3 (P:Program) (ops:Array Oper) (hs:List (Nat×Hint)) (S:Env):Option dN :=
 match Go.Sx.phase P ops hs S with
 | some r=>some r.1
 | none=>none
def Cy (P:Program) (ops:Array Oper) (hs:List (Nat×Hint)) (S:Env):Env :=
 match Go.Sx.phase P ops hs S with
 | some r=>r.2
 | none=>S
section
variable {P : Program} {R0 : Exit -> Act -> World -> Prop} {N : Fr} {K : List fQ} {S : Env} {w w0 : World} {l : List Oper} {M : List Nat} {A : dN} {rest : PT} {L : List bA}
theorem Zh (hs:List (Nat×Hint)){rest':PT}(A':dN) (h2:jP w A') (h3:aL P l M R0 K N (A'.reverse++A) rest (Cy P l.toArray hs S) w)
 (hr:gE (hs.map λx=>x.1) rest=rest':=by exact rfl) (h1:H3 P l.toArray hs S=some A':=by kernel_rfl):aL P l M R0 K N A rest' S w:=by
 unfold H3 at h1
 unfold Cy at h3
 cases hp:Go.Sx.phase P l.toArray hs S with
 | none=>rw [hp] at h1;cases h1
 | some r =>
  obtain⟨A1,S1⟩:=r
  rw [hp] at h1 h3
  obtain rfl:=Option.some.inj h1
  exact aL.phase hs A1 S1 hp hr h2 h3
theorem Zp (a n:Nat) (ex:List (Nat×Hint)) (A':dN) (h2:jP w A') (h3:aL P l M R0 K N (A'.reverse++A) rest (Cy P l.toArray (L3 ex a n) S) w)
 (h1:H3 P l.toArray (L3 ex a n) S=some A':=by kernel_rfl):aL P l M R0 K N A (JI a n rest) S w :=
 Zh (L3 ex a n) A' h2 h3 (GF ex rest n a) h1
theorem Zr (a n:Nat) (ex:List (Nat×Hint)) (h3:aL P l M R0 K N A rest (Cy P l.toArray (L3 ex a n) S) w)
 (h1:H3 P l.toArray (L3 ex a n) S=some []:=by kernel_rfl):aL P l M R0 K N A (JI a n rest) S w :=
 Zp a n ex [] iF h3 h1
theorem Zn {c:Code}(S':Env) (h:aX P R0 N K c S' w) (he:S.pick (S'.map λx=>x.1)=S':=by kernel_rfl):aX P R0 N K c S w:=λa hf=>h a (he▸hf.pick _)
theorem eV {id:Nat}(p:PT) (h:aL P l (List.replicate l.length ((1 <<< l.length)-1)) R0 K N [] p S w) (hp:p.idxs=List.range l.length:=by kernel_rfl) (hN:mi N l.toArray=true:=by kernel_rfl):aX P R0 N K (.region id l.toArray false) S w :=
 aX.jT _ p hp hN h
theorem gS {i:Nat}(h:opens M A i=[]:=by kernel_rfl):bH w (opens M A i):=yc h
theorem eZ {c:Operand}{x y:Code}{t:Bool}(h1:t=true->aX P R0 N K x S w) (h2:t=false->aX P R0 N K y S w) (hc:S.op c=some (.bool t):=by kernel_rfl):aX P R0 N K (.cond c x y) S w:=aX.cond hc h1 h2
theorem Re {c:Operand}{x y:Code}(h1:aX P R0 N K x S w) (hc:S.op c=some (.bool true):=by kernel_rfl):aX P R0 N K (.cond c x y) S w:=aX.JC hc h1
theorem nQ (d:Nat){b:Bool}(t:Bool) (hb:b=t) (h:aL P l M R0 K N A rest (S.set d (.bool t)) w) (hd:d<N.n:=by exact Nat.le_of_ble_eq_true rfl) (hg:S.get d=some (.bool b):=by kernel_rfl):aL P l M R0 K N A rest S w:=aL.JG d t hd hg hb h
theorem bY {N:Nat}{fn:Func}{φ:Value->World->Prop}{e:Exit}{t:Tmp}{v:Value}(h:φ v w) (he:e=.ret\/e=.normal:=by exact .inl rfl) (hr:fn.results=#[.tmp t]:=by exact rfl) (hv:S.get t=some v:=by kernel_rfl):aS P (bodyPost P fn (eD φ)) ⟨N,[],none⟩ [] e S w :=
 aS.done he (λa hf=>results1 hr hv a hf) h
theorem Jq {N:Nat}{fn:Func}{φ:Value->World->Prop}{e:Exit}{t u:Tmp}{v v':Value}(h:φ (.tuple #[v,v']) w) (he:e=.ret\/e=.normal:=by exact .inl rfl) (hr:fn.results=#[.tmp t,.tmp u]:=by exact rfl) (hv:S.get t=some v:=by kernel_rfl) (hu:S.get u=some v':=by kernel_rfl):aS P (bodyPost P fn (eD φ)) ⟨N,[],none⟩ [] e S w :=
 aS.done he (λa hf=>results2 hr hv hu a hf) h
theorem dJ {i:Nat}{o:Oper}{c:Call}{f:FuncId}{args:Array Value}
 (hcall:∀ args w,(callFunc f args).run P w=.ok (.enter f args) w){φ:Value->World->Prop}(spec:Calls P f args w (eD φ))
 (h:∀ v w',φ v w'->bH w' (opens M A i)/\aL P l M R0 K N A rest (S.dO o.dst v) w')
 (ho:l[i]?=some o:=by exact rfl) (hop:o.op=.call c:=by exact rfl) (hw:cZ l.toArray S o=some true:=by kernel_rfl) (hc:mz S c=some (f,args):=by kernel_rfl):aL P l M R0 K N A (.ef i rest) S w :=
 aL.call ho hop hw hc hcall spec h
theorem Zs {x y:Code}(h:aX P R0 N (.code y::K) x S w):aX P R0 N K (.seq x y) S w:=aX.seq h
theorem Zb {id:Nat}{c:Code}(h:aX P R0 N (.cN id::K) c S w):aX P R0 N K (.block id c) S w:=aX.block h
theorem Zk (h:aS P R0 N K .normal S w):aX P R0 N K .skip S w:=aX.skip h
theorem Zx {id:Nat}(h:aS P R0 N K (.exit id) S w):aX P R0 N K (.exit id) S w:=aX.exit h
theorem Ze (h:aS P R0 N K .ret S w):aX P R0 N K .ret S w:=aX.ret h
theorem Zt {y:Code}(h:aX P R0 N K y S w):aS P R0 N (.code y::K) .normal S w:=h
theorem Zy {y:Code}(h:aS P R0 N K .ret S w):aS P R0 N (.code y::K) .ret S w:=h
theorem Zl {id:Nat}(h:aS P R0 N K .ret S w):aS P R0 N (.cN id::K) .ret S w:=h
theorem Zm {id:Nat}(h:aS P R0 N K .normal S w):aS P R0 N (.cN id::K) .normal S w:=h
theorem Zd (h:aS P R0 N K .normal S w):aL P l M R0 K N A .done S w:=aL.done h
class E4 (L:List bA) (j:Nat) (b:outParam Nat) (cs:outParam (Array Value)) (T:outParam TypeId) (cs':Array Value) (L':outParam (List bA)):Prop where
 at_:L[j]?=some (aB b cs T)
 L4:L.set j (aB b cs' T)=L'
instance QK {b:Nat}{cs cs':Array Value}{T:TypeId}{L:List bA}:E4 (aB b cs T::L) 0 b cs T cs' (aB b cs' T::L):=⟨rfl,rfl⟩
instance QL {b:Nat}{cs cs':Array Value}{T:TypeId}{A:bA}{L L':List bA}{j:Nat} [h:E4 L j b cs T cs' L']:E4 (A::L) (j+1) b cs T cs' (A::L'):=⟨h.at_,by show A::L.set j _=_;rw [h.L4]⟩
theorem Zv {i:Nat}{o:Oper}{t:TypeId}{x y:Operand}{b off:Nat}{v:Value}{ti:TypeInfo}(ht:P.info? t=some ti) (hs:St w0 L w) (j:Nat){cs:Array Value}{T:TypeId}{cs':Array Value}{L':List bA} [c_:E4 L j b cs T cs' L']
 (h:∀ w',St w0 L' w'->bH w' (opens M A i)/\aL P l M R0 K N A rest (S.dO o.dst undef) w')
 (ho:l[i]?=some o:=by exact rfl) (hop:o.op=.store t x y:=by exact rfl) (hw:cZ l.toArray S o=some true:=by kernel_rfl)
 (hx:S.op x=some (.pointer (some ⟨b,off,none⟩)):=by kernel_rfl) (hy:S.op y=some v:=by kernel_rfl)
 (hsz:v.cells.size=ti.size:=by kernel_rfl) (h1:v.cells.toList.all qZ=true:=by kernel_rfl) (hoff:Nat.ble (off+v.cells.size) cs.size=true:=by kernel_rfl)
 (hcs:aV cs off v.cells.toList=cs':=by kernel_rfl):aL P l M R0 K N A (.ef i rest) S w :=
 aL.store ho hop hw hx hy ht hs j c_.at_ hsz h1 (Nat.le_of_ble_eq_true hoff) hcs c_.L4 h
end
class re (L:List bA) (i:Nat) (A:outParam bA) (R:outParam (List bA)):Prop where
 at_:L[i]?=some A
 rest:L.eraseIdx i=R
instance P0 {A:bA}{L:List bA}:re (A::L) 0 A L:=⟨rfl,rfl⟩
instance P1 {B A:bA}{L R:List bA}{i:Nat} [h:re L i A R]:re (B::L) (i+1) A (B::R):=⟨h.at_,by show B::L.eraseIdx i=_;rw [h.rest]⟩
class yK (L:List bA) (n:Nat) (R:outParam (List bA)):Prop where
 eq:L.drop n=R
instance P2 {L:List bA}:yK L 0 L:=⟨rfl⟩
instance P3 {A:bA}{L R:List bA}{n:Nat} [h:yK L n R]:yK (A::L) (n+1) R:=⟨h.eq⟩
theorem St.dr {w0 w:World}{L R:List bA}(h:St w0 L w) (n:Nat) [d:yK L n R]:St w0 R w:=d.eq▸h.drop n
theorem St.pl {w0 w:World}{L R:List bA}{A:bA}(h:St w0 L w) (i:Nat) [d:re L i A R]:St w0 (A::R) w:=d.rest▸h.pull i d.at_
instance P4 {A B:bA}{L R R':List bA}{i j:Nat} [h:re L j B R] [d:re R i A R']:re (L.eraseIdx j) i A R':=⟨by rw [h.rest];exact d.at_,by rw [h.rest];exact d.rest⟩
instance QM {b:Nat}{cs cs':Array Value}{T:TypeId}{B:bA}{L R L':List bA}{i j:Nat} [h:re L j B R] [d:E4 R i b cs T cs' L']:E4 (L.eraseIdx j) i b cs T cs' L':=⟨by rw [h.rest];exact d.at_,by rw [h.rest];exact d.L4⟩
instance P5 {B:bA}{L R R':List bA}{n j:Nat} [h:re L j B R] [d:yK R (n+1) R']:yK (L.eraseIdx j) (n+1) R':=⟨by rw [h.rest];exact d.eq⟩
abbrev ku:ByteArray:=⟨#[]⟩
abbrev ko:Array Value:=#[.int .u8 0,.int .u8 0,.int .u8 0,.int .u8 0,.int .u8 0,.int .u8 0,.int .u8 0,.int .u8 0,.int .u8 0,.int .u8 0,.int .u8 0,.int .u8 0,.int .u8 0,.int .u8 0,.int .u8 0,.int .u8 0,.int .u8 0,.int .u8 0,.int .u8 0,.int .u8 0,.int .u8 0,.int .u8 0,.int .u8 0,.int .u8 0,.int .u8 0,.int .u8 0,.int .u8 0,.int .u8 0,.int .u8 0,.int .u8 0,.int .u8 0,.int .u8 0]
abbrev NC:Array Value:=#[.int .u32 1116352408,.int .u32 1899447441,.int .u32 3049323471,.int .u32 3921009573,.int .u32 961987163,.int .u32 1508970993,.int .u32 2453635748,.int .u32 2870763221,.int .u32 3624381080,.int .u32 310598401,.int .u32 607225278,.int .u32 1426881987,.int .u32 1925078388,.int .u32 2162078206,.int .u32 2614888103,.int .u32 3248222580,.int .u32 3835390401,.int .u32 4022224774,.int .u32 264347078,.int .u32 604807628,.int .u32 770255983,.int .u32 1249150122,.int .u32 1555081692,.int .u32 1996064986,.int .u32 2554220882,.int .u32 2821834349,.int .u32 2952996808,.int .u32 3210313671,.int .u32 3336571891,.int .u32 3584528711,.int .u32 113926993,.int .u32 338241895,.int .u32 666307205,.int .u32 773529912,.int .u32 1294757372,.int .u32 1396182291,.int .u32 1695183700,.int .u32 1986661051,.int .u32 2177026350,.int .u32 2456956037,.int .u32 2730485921,.int .u32 2820302411,.int .u32 3259730800,.int .u32 3345764771,.int .u32 3516065817,.int .u32 3600352804,.int .u32 4094571909,.int .u32 275423344,.int .u32 430227734,.int .u32 506948616,.int .u32 659060556,.int .u32 883997877,.int .u32 958139571,.int .u32 1322822218,.int .u32 1537002063,.int .u32 1747873779,.int .u32 1955562222,.int .u32 2024104815,.int .u32 2227730452,.int .u32 2361852424,.int .u32 2428436474,.int .u32 2756734187,.int .u32 3204031479,.int .u32 3329325298]
abbrev OH:Array Value:=#[.int .u32 0,.int .u32 0,.int .u32 0,.int .u32 0,.int .u32 0,.int .u32 0,.int .u32 0,.int .u32 0,.int .u32 0,.int .u32 0,.int .u32 0,.int .u32 0,.int .u32 0,.int .u32 0,.int .u32 0,.int .u32 0,.int .u32 0,.int .u32 0,.int .u32 0,.int .u32 0,.int .u32 0,.int .u32 0,.int .u32 0,.int .u32 0,.int .u32 0,.int .u32 0,.int .u32 0,.int .u32 0,.int .u32 0,.int .u32 0,.int .u32 0,.int .u32 0,.int .u32 0,.int .u32 0,.int .u32 0,.int .u32 0,.int .u32 0,.int .u32 0,.int .u32 0,.int .u32 0,.int .u32 0,.int .u32 0,.int .u32 0,.int .u32 0,.int .u32 0,.int .u32 0,.int .u32 0,.int .u32 0,.int .u32 0,.int .u32 0,.int .u32 0,.int .u32 0,.int .u32 0,.int .u32 0,.int .u32 0,.int .u32 0,.int .u32 0,.int .u32 0,.int .u32 0,.int .u32 0,.int .u32 0,.int .u32 0,.int .u32 0,.int .u32 0]
abbrev Jr:Array Value:=#[.int .i64 0,.int .u64 0,.int .i64 0,.string ku,.int .u64 0]
abbrev QN:Array Value:=#[.int .u32 1779033703,.int .u32 3144134277,.int .u32 1013904242,.int .u32 2773480762,.int .u32 1359893119,.int .u32 2600822924,.int .u32 528734635,.int .u32 1541459225]
abbrev vz:Array Value:=#[.int .u32 0,.int .u32 0,.int .u32 0,.int .u32 0,.int .u32 0,.int .u32 0,.int .u32 0,.int .u32 0]
def PT.lead:PT->List Nat
 | .rd i r=>i::PT.lead r
 | _=>[]
def PT.cut:PT->PT
 | .rd _ r=>PT.cut r
 | p=>p
theorem PT.vA:∀ p:PT,gE p.lead p.cut=p
 | .rd i r=>congrArg (PT.rd i) (PT.vA r)
 | .done=>rfl
 | .ef _ _=>rfl
 | .alt _ _=>rfl
def fX:Nat->Nat->List Nat->PT
 | _,0,_=>.done
 | a,n+1,[]=>.rd a (fX (a+1) n [])
 | a,n+1,e::es=>bif Nat.beq a e then .ef a (fX (a+1) n es) else .rd a (fX (a+1) n (e::es))
def qQ (ex:List (Nat×Hint)):List Nat->List (Nat×Hint)
 | []=>[]
 | i::l=>(i,JH i ex)::qQ ex l
theorem AU (ex:List (Nat×Hint)):∀ l:List Nat,(qQ ex l).map (λx=>x.1)=l
 | []=>rfl
 | i::l=>congrArg (i::·) (AU ex l)
def HA (w:World) (hh:List (Nat×Hint)) (aa:dN):Prop:=jP w aa
section
variable {P : Program} {R0 : Exit -> Act -> World -> Prop} {N : Fr} {K : List fQ} {S : Env} {w w0 : World} {l : List Oper} {M : List Nat} {A : dN} {rest p : PT} {L : List bA} {hh : List (Nat × Hint)} {aa : dN} {k : Bool}
def Pb (k:Bool) (G:Prop):Prop:=k=true/\G
theorem En {G:Prop}(h:Pb true G):G:=h.2
theorem Dz {G:Prop}(h:G) (hk:k=true:=by kernel_rfl):Pb k G:=⟨hk,h⟩
theorem Pb.im {G H:Prop}(h:Pb k G) (f:G->H):Pb k H:=⟨h.1,f h.2⟩
theorem Ls {x y:Code}(h:Pb k (aX P R0 N (.code y::K) x S w)):Pb k (aX P R0 N K (.seq x y) S w):=h.im aX.seq
theorem Lb {id:Nat}{c:Code}(h:Pb k (aX P R0 N (.cN id::K) c S w)):Pb k (aX P R0 N K (.block id c) S w):=h.im aX.block
theorem Lk (h:Pb k (aS P R0 N K .normal S w)):Pb k (aX P R0 N K .skip S w):=h.im aX.skip
theorem Lx {id:Nat}(h:Pb k (aS P R0 N K (.exit id) S w)):Pb k (aX P R0 N K (.exit id) S w):=h.im aX.exit
theorem Le (h:Pb k (aS P R0 N K .ret S w)):Pb k (aX P R0 N K .ret S w):=h.im aX.ret
theorem Lt {y:Code}(h:Pb k (aX P R0 N K y S w)):Pb k (aS P R0 N (.code y::K) .normal S w):=h
theorem Ly {y:Code}(h:Pb k (aS P R0 N K .ret S w)):Pb k (aS P R0 N (.code y::K) .ret S w):=h
theorem Ll {id:Nat}(h:Pb k (aS P R0 N K .ret S w)):Pb k (aS P R0 N (.cN id::K) .ret S w):=h
theorem Lm {id:Nat}(h:Pb k (aS P R0 N K .normal S w)):Pb k (aS P R0 N (.cN id::K) .normal S w):=h
theorem mM {y:Code}{id:Nat}(h:Pb k (aS P R0 N K (.exit id) S w)):Pb k (aS P R0 N (.code y::K) (.exit id) S w):=h
theorem mN {I:Act->World->Prop}{id:Nat}(h:Pb k (aS P R0 N K (.exit id) S w)):Pb k (aS P R0 N (.lp I::K) (.exit id) S w):=h
theorem E5 {I:Act->World->Prop}(h:Pb k (aS P R0 N K .ret S w)):Pb k (aS P R0 N (.lp I::K) .ret S w):=h
theorem Lh {id:Nat}(h:Pb k (aS P R0 N K .normal S w)):Pb k (aS P R0 N (.cN id::K) (.exit id) S w):=h.im aS.kI
def PM (S:Env) (c:Operand) (t:Bool):Bool :=
 match S.op c with
 | some (.bool b)=>b == t
 | _=>false
theorem JJ {c:Operand}{t:Bool}(h:PM S c t=true):S.op c=some (.bool t):=by
 unfold PM at h
 split at h
 ·rename_i b hb;rw [hb,eq_of_beq h]
 ·cases h
theorem LT {c:Operand}{x y:Code}(h:Pb (k && PM S c true) (aX P R0 N K x S w)):Pb k (aX P R0 N K (.cond c x y) S w) :=
 have hk:=Bool.and_eq_true_iff.1 h.1
 ⟨hk.1,aX.JC (JJ hk.2) h.2⟩
theorem LF {c:Operand}{x y:Code}(h:Pb (k && PM S c false) (aX P R0 N K y S w)):Pb k (aX P R0 N K (.cond c x y) S w) :=
 have hk:=Bool.and_eq_true_iff.1 h.1
 ⟨hk.1,aX.JD (JJ hk.2) h.2⟩
def L5 (P:Program) (ops:Array Oper) (hs:List (Nat×Hint)) (S:Env):Bool :=
 match Go.Sx.phase P ops hs S with
 | some ([],_)=>true
 | _=>false
theorem L6 {ops:Array Oper}{hs:List (Nat×Hint)}(h:L5 P ops hs S=true):H3 P ops hs S=some []:=by
 unfold L5 at h
 split at h
 ·rename_i S' e;unfold H3;rw [e]
 ·cases h
def PT.isDone:PT->Bool
 | .done=>true
 | _=>false
theorem PT.sB {p:PT}(h:p.isDone=true):p=.done:=by cases p with
 | done=>rfl
 | _=>cases h
def PN:List Nat->List Nat->Bool
 | [],[]=>true
 | a::l,b::m=>Nat.beq a b && PN l m
 | _,_=>false
theorem JK:∀ {l m:List Nat},PN l m=true->l=m
 | [],[],_=>rfl
 | a::l,b::m,h=>by
  have h1:=Bool.and_eq_true_iff.1 (show(Nat.beq a b && PN l m)=true from h)
  rw [Nat.eq_of_beq_eq_true h1.1,JK h1.2]
 | [],_::_,h=>by cases h
 | _::_,[],h=>by cases h
def ND (N:Nat) (l:List Oper) (p:PT):Bool:=PN p.idxs (List.range l.length) && mi N l.toArray
theorem Lg {id:Nat}(es:List Nat) (h:Pb (k && ND N l (fX 0 l.length es)) (aL P l (List.replicate l.length ((1 <<< l.length)-1)) R0 K N [] (fX 0 l.length es) S w)):Pb k (aX P R0 N K (.region id l.toArray false) S w) :=
 have hk:=Bool.and_eq_true_iff.1 h.1
 have hr:=Bool.and_eq_true_iff.1 hk.2
 ⟨hk.1,aX.jT _ _ (JK hr.1) hr.2 h.2⟩
theorem Lu (h:Pb (k && L5 P l.toArray (qQ [] p.lead) S) (aL P l M R0 K N A p.cut (Cy P l.toArray (qQ [] p.lead) S) w)):Pb k (aL P l M R0 K N A p S w) :=
 have hk:=Bool.and_eq_true_iff.1 h.1
 ⟨hk.1,Zh (qQ [] p.lead) [] iF h.2 (by rw [AU];exact p.vA) (L6 hk.2)⟩
theorem Ld (h:Pb (k && p.isDone) (aS P R0 N K .normal S w)):Pb k (aL P l M R0 K N A p S w) :=
 have hk:=Bool.and_eq_true_iff.1 h.1
 ⟨hk.1,by rw [PT.sB hk.2];exact aL.done h.2⟩
theorem cI (h:Pb (k && (L5 P l.toArray (qQ [] p.lead) S && p.cut.isDone)) (aS P R0 N K .normal (Cy P l.toArray (qQ [] p.lead) S) w)):Pb k (aL P l M R0 K N A p S w) :=
 have hk:=Bool.and_eq_true_iff.1 h.1
 have hr:=Bool.and_eq_true_iff.1 hk.2
 Lu (k:=k) ⟨Bool.and_eq_true_iff.2 ⟨hk.1,hr.1⟩,by rw [PT.sB hr.2];exact aL.done h.2⟩
theorem La {id:Nat}(h:Pb (k && (ND N l (fX 0 l.length []) && (L5 P l.toArray (qQ [] (fX 0 l.length []).lead) S && (fX 0 l.length []).cut.isDone))) (aS P R0 N K .normal (Cy P l.toArray (qQ [] (fX 0 l.length []).lead) S) w)):Pb k (aX P R0 N K (.region id l.toArray false) S w) :=
 have hk:=Bool.and_eq_true_iff.1 h.1
 have hr:=Bool.and_eq_true_iff.1 hk.2
 Lg [] ⟨Bool.and_eq_true_iff.2 ⟨hk.1,hr.1⟩,(cI (k:=true) ⟨hr.2,h.2⟩).2⟩
theorem Lo {i:Nat}(h:Pb ((opens M A i).isEmpty) (aL P l M R0 K N A rest S w)):bH w (opens M A i)/\aL P l M R0 K N A rest S w:=⟨yc (List.isEmpty_iff.1 h.1),h.2⟩
theorem Zg {id:Nat}(es:List Nat) (h:aL P l (List.replicate l.length ((1 <<< l.length)-1)) R0 K N [] (fX 0 l.length es) S w) (hp:ND N l (fX 0 l.length es)=true:=by kernel_rfl):aX P R0 N K (.region id l.toArray false) S w :=
 (Lg (k:=true) es ⟨hp,h⟩).2
theorem Zj (q:HA w hh aa) (h3:aL P l M R0 K N (aa.reverse++A) p.cut (Cy P l.toArray (qQ hh p.lead) S) w) (h1:H3 P l.toArray (qQ hh p.lead) S=some aa:=by kernel_rfl):aL P l M R0 K N A p S w :=
 Zh (qQ hh p.lead) aa q h3 (by rw [AU];exact p.vA) h1
theorem Hz:HA w [] []:=trivial
theorem kV (q:HA w hh aa) (h3:aS P R0 N K .normal (Cy P l.toArray (qQ hh p.lead) S) w) (h1:H3 P l.toArray (qQ hh p.lead) S=some aa:=by kernel_rfl) (hc:p.cut.isDone=true:=by kernel_rfl):aL P l M R0 K N A p S w :=
 Zj q (by rw [PT.sB hc];exact aL.done h3) h1
theorem Za {id:Nat}(h:aS P R0 N K .normal (Cy P l.toArray (qQ [] (fX 0 l.length []).lead) S) w) (h1:(ND N l (fX 0 l.length []) && (L5 P l.toArray (qQ [] (fX 0 l.length []).lead) S && (fX 0 l.length []).cut.isDone))=true:=by kernel_rfl):aX P R0 N K (.region id l.toArray false) S w :=
 (La (k:=true) ⟨h1,h⟩).2
theorem dE {id:Nat}(q:HA w hh aa) (h:aS P R0 N K .normal (Cy P l.toArray (qQ hh (fX 0 l.length []).lead) S) w) (h1:H3 P l.toArray (qQ hh (fX 0 l.length []).lead) S=some aa:=by kernel_rfl) (hp:ND N l (fX 0 l.length [])=true:=by kernel_rfl) (hc:(fX 0 l.length []).cut.isDone=true:=by kernel_rfl):aX P R0 N K (.region id l.toArray false) S w :=
 Zg [] (kV q h h1 hc) hp
theorem dZ {id:Nat}(es:List Nat) (q:HA w hh aa) (h:aL P l (List.replicate l.length ((1 <<< l.length)-1)) R0 K N (aa.reverse++[]) (fX 0 l.length es).cut (Cy P l.toArray (qQ hh (fX 0 l.length es).lead) S) w) (h1:H3 P l.toArray (qQ hh (fX 0 l.length es).lead) S=some aa:=by kernel_rfl) (hp:ND N l (fX 0 l.length es)=true:=by kernel_rfl):aX P R0 N K (.region id l.toArray false) S w :=
 Zg es (Zj q h h1) hp
theorem QP {i:Nat}(q:HA w hh aa) (h3:aL P l M R0 K N (aa.reverse++A) p.cut (Cy P l.toArray (qQ hh p.lead) S) w) (h1:H3 P l.toArray (qQ hh p.lead) S=some aa:=by kernel_rfl) (hop:opens M A i=[]:=by kernel_rfl):bH w (opens M A i)/\aL P l M R0 K N A p S w:=⟨yc hop,Zj q h3 h1⟩
theorem P6 {i:Nat}(q:HA w hh aa) (h3:aS P R0 N K .normal (Cy P l.toArray (qQ hh p.lead) S) w) (h1:H3 P l.toArray (qQ hh p.lead) S=some aa:=by kernel_rfl) (hc:p.cut.isDone=true:=by kernel_rfl) (hop:opens M A i=[]:=by kernel_rfl):bH w (opens M A i)/\aL P l M R0 K N A p S w:=⟨yc hop,kV q h3 h1 hc⟩
theorem Zi (p:Prop) [Decidable p] {c:Operand}{x y:Code}(h1:p->aX P R0 N K x S w) (h2:¬ p->aX P R0 N K y S w) (hc:S.op c=some (.bool (decide p)):=by kernel_rfl):aX P R0 N K (.cond c x y) S w :=
 aX.cond hc (λh=>h1 (of_decide_eq_true h)) (λh=>h2 (of_decide_eq_false h))
end
def JL (fn:Func):Code :=
 match fn.body with
 | some c=>c
 | none=>.skip
theorem JM {fn:Func}(h:fn.body.isSome=true):fn.body=some (JL fn):=by
 unfold JL
 cases hb:fn.body with
 | none=>rw [hb] at h;cases h
 | some c=>rfl
theorem dF {P:Program}{f:FuncId}{fn:Func}{args:List Value}{N:Nat}{w:World}{φ:Value->World->Prop}(hf:P.funcs[f]?=some fn) (hn:fn.ntmps=N) (h:aX P (bodyPost P fn (eD φ)) ⟨N,[],none⟩ [] (JL fn) (vu 0 args) w) (hb:fn.body.isSome=true:=by kernel_rfl) (hl:Nat.ble args.length N=true:=by kernel_rfl):Calls P f args.toArray w (eD φ):=enter hf (JM hb) hn (Nat.le_of_ble_eq_true hl) h
class yL (L:List bA) (j:Nat) (b:outParam Nat) (cs:outParam (Array Value)):Prop where
 at_:∃ T,L[j]?=some (aB b cs T)
instance P7 {b:Nat}{cs:Array Value}{T:TypeId}{L:List bA}:yL (aB b cs T::L) 0 b cs:=⟨⟨T,rfl⟩⟩
instance P8 {A:bA}{L:List bA}{j b:Nat}{cs:Array Value} [h:yL L j b cs]:yL (A::L) (j+1) b cs:=⟨h.at_⟩
def P9 (cs:Array Value) (o:Nat):Value:=(cs[o]?).getD undef
section
variable {w w0 : World} {L : List bA} {hh : List (Nat × Hint)} {aa : dN} {b : Nat} {cs : Array Value}
theorem Hl (i j o:Nat) (hs:St w0 L w) [c:yL L j b cs] (q:HA w hh aa) (hb:(cs[o]?).isSome=true:=by kernel_rfl):HA w ((i,.gen [P9 cs o])::hh) ((i,[.cell ⟨b,o,none⟩ (P9 cs o)])::aa):=by
 obtain⟨T,h⟩:=c.at_
 refine⟨⟨hs.cell j h ?_,trivial⟩,q⟩
 unfold P9
 obtain⟨v,hv⟩:=Option.isSome_iff_exists.1 hb
 rw [hv]
 rfl
theorem hP (i j o n:Nat) (vs:Array Value) (hs:St w0 L w) [c:yL L j b cs] (q:HA w hh aa) (hn:vs.size=n:=by kernel_rfl) (hv:cs.extract o (o+vs.size)=vs:=by kernel_rfl):HA w ((i,.agg vs)::hh) ((i,[.prop (vs.size=n),.cells ⟨b,o,none⟩ vs])::aa):=by
 obtain⟨T,h⟩:=c.at_
 exact⟨⟨hn,hs.cells j o h hv,trivial⟩,q⟩
theorem PO (i:Nat) (x:Int) (q:HA w hh aa) (h1:0<=x:=by omega) (h2:x<256:=by omega):HA w ((i,.dH (.int .u8 x) (.gen []))::hh) ((i,[.prop (Value.int .u8 (IntKind.u8.wrap x)=.int .u8 x)])::aa):=⟨⟨PZ h1 h2,trivial⟩,q⟩
theorem Cz (i:Nat) (x:Int) (q:HA w hh aa) (h1:0<=x:=by omega) (h2:x<18446744073709551616:=by omega):HA w ((i,.dH (.int .u64 x) (.gen []))::hh) ((i,[.prop (Value.int .u64 (IntKind.u64.wrap x)=.int .u64 x)])::aa):=⟨⟨pQ h1 h2,trivial⟩,q⟩
theorem eT (i:Nat) (x:Int) (q:HA w hh aa) (h1:-9223372036854775808<=x:=by omega) (h2:x<9223372036854775808:=by omega):HA w ((i,.dH (.int .i64 x) (.gen []))::hh) ((i,[.prop (Value.int .i64 (IntKind.i64.wrap x)=.int .i64 x)])::aa):=⟨⟨iD h1 h2,trivial⟩,q⟩
theorem Hx (i:Nat) (x n:Int) (b o s:Nat) (q:HA w hh aa) (hx:0<=x/\x<n:=by omega):HA w ((i,.dH (zP b (o+x.toNat*s)) .at_)::hh) ((i,[.prop (0<=x/\x<n),.prop (Value.pointer (some (Addr.add ⟨b,o,none⟩ (x.toNat*s)))=.pointer (some ⟨b,o+x.toNat*s,none⟩))])::aa):=⟨⟨hx,aU _ _ _,trivial⟩,q⟩
theorem Hg (i:Nat) (h:Hint) (n:List fG) (hn:bH w n) (q:HA w hh aa):HA w ((i,h)::hh) ((i,n)::aa):=⟨hn,q⟩
end
theorem nI {α:Sort _}{b:Bool}{x y:α}(h:b=false):(if b=true then x else y)=y:=if_neg (ne_true_of_eq_false h)
def Hb:Env->Bool
 | (_,.bool b)::_=>b
 | _=>false
def Rb (b:Bool):Env->Env
 | (d,_)::r=>(d,.bool b)::r
 | []=>[]
theorem vB {P:Program}{R0:Exit->Act->World->Prop}{N:Fr}{K:List fQ}{S:Env}{w:World}{T:Type}{E:T->Env}{F:T->World->Prop}(ks:List Nat) (x:T) (hF:F x w) (hE:S.pick ks=E x:=by kernel_rfl):aS P R0 N (.lp (GD N E F)::K) .normal S w :=
 aS.pick ks hE (aS.eF x rfl hF)
theorem lM {P:Program}{R0:Exit->Act->World->Prop}{N:Fr}{K:List fQ}{S:Env}{w:World}{T:Type}{E:T->Env}{F:T->World->Prop}(ks:List Nat) (x:T) (b:Bool) (hb:Hb (E x)=b) (hF:F x w) (hE:S.pick ks=Rb b (E x):=by kernel_rfl) (hd:Rb (Hb (E x)) (E x)=E x:=by kernel_rfl):aS P R0 N (.lp (GD N E F)::K) .normal S w :=
 vB ks x hF (hE.trans ((congrArg (λb=>Rb b (E x)) hb.symm).trans hd))
end Go.Sx
namespace Go.Sx
open Go.RowKit
set_option linter.unusedVariables false
set_option linter.unusedSimpArgs false
theorem aC.isSome {w:World}{ad:Option Addr}{n size:Nat}{cell:Nat->Array Value}(h:aC w ad n size cell) (hn:0<n):∃ b off,ad=some ⟨b,off,none⟩:=by
 obtain⟨b,off,h1,_⟩:=h hn
 exact⟨b,off,h1⟩
theorem aC.at {w:World}{b off n size:Nat}{cell:Nat->Array Value}(h:aC w (some ⟨b,off,none⟩) n size cell){k j:Nat}(hk:k<n) (hj:j<size):w.cell? ⟨b,off+k*size+j,none⟩=(cell k)[j]?:=by
 obtain⟨b',off',h1,h2⟩:=h za
 simp only [Option.some.injEq,Addr.mk.injEq,and_true] at h1
 obtain⟨rfl,rfl⟩:=h1
 exact h2 k hk j hj
theorem aC.all {w:World}{b off n size:Nat}{cell:Nat->Array Value}(h:aC w (some ⟨b,off,none⟩) n size cell){k o:Nat}(hk:k<n){vs:Array Value}(ho:o+vs.size<=size) (hv:(cell k).extract o (o+vs.size)=vs) :
 ∀ i,i<vs.size->w.cell? ((Addr.mk b (off+k*size+o) none).add i)=vs[i]?:=by
 intro i hi
 rw [dI,Nat.add_assoc,h.at hk za]
 have h1:((cell k).extract o (o+vs.size))[i]?=vs[i]?:=by rw [hv]
 rw [<- h1,Array.getElem?_extract]
 have h2:=congrArg Array.size hv
 simp only [Array.size_extract] at h2
 rw [if_pos za]
theorem aC.base {W w w0:World}{L:List bA}{ad:Option Addr}{n size:Nat}{cell:Nat->Array Value}(h:aC W ad n size cell) (hc:∀ k,k<n->(cell k).size=size) (hs:St w0 L w) (i:Nat) (hi:L[i]?=some (AQ W)):aC w ad n size cell:=λhn=>by
 obtain⟨b,off,h1,h2⟩:=h hn
 refine⟨b,off,h1,λk hk j hj=>?_⟩
 have h3:=h2 k hk j hj
 have hlt:j<(cell k).size:=by rw [hc k hk];exact hj
 rw [Array.getElem?_eq_getElem hlt] at h3 ⊢
 exact hs.base i hi h3
theorem aC.sub {w:World}{b off n size:Nat}{cell:Nat->Array Value}(h:aC w (some ⟨b,off,none⟩) n size cell) (lo m:Nat) (hm:lo+m<=n):aC w (some ⟨b,off+lo*size,none⟩) m size (λk=>cell (lo+k)):=λhn =>
 ⟨b,off+lo*size,rfl,λk hk j hj=>by rw [Nat.add_assoc off,<- Nat.add_mul];exact h.at za hj⟩
theorem aC.nil {w:World}(ad:Option Addr) (size:Nat) (cell:Nat->Array Value):aC w ad 0 size cell:=λh=>absurd h za
theorem aC.lt {w:World}{ad:Option Addr}{n size:Nat}{cell:Nat->Array Value}(h:aC w ad n size cell){m:Nat}(hm:m<=n):aC w ad m size cell:=λhn=>by
 obtain⟨b,off,h1,h2⟩:=h za
 exact⟨b,off,h1,λk hk=>h2 k za⟩
theorem aC.NF {W:World}{ad:Option Addr}{n size:Nat}{cell cell':Nat->Array Value}(h:aC W ad n size cell) (hc:∀ k,k<n->cell k=cell' k):aC W ad n size cell':=λhn=>by
 obtain⟨b,off,h1,h2⟩:=h hn
 exact⟨b,off,h1,λk hk j hj=>by rw [<- hc k hk];exact h2 k hk j hj⟩
def QQ (v:Value) (e:TypeId) (size n:Nat) (xs:List Value):bA :=
 ⟨λb=>v.ownBlock=some b,λw=>w.ownsRow 0 e size v n xs,λw w' h h1=>by
  obtain⟨h2,h3⟩:=h1
  refine⟨h2,?_⟩
  rcases h3 with h3|⟨g,cap,cur,hv,hb,hg,r⟩
  ·exact .inl h3
  ·exact .inr ⟨g,cap,cur,hv,hb,by rw [h g (by rw [hv];rfl)];exact hg,r⟩⟩
def Sl {α:Type}(ad:Option Addr) (c:Nat) (e:TypeId) (size:Nat) (f:α->Array Value) (l:List α):bA:=QQ (.slice ad l.length c) e size l.length (l.flatMap λx=>(f x).toList)
theorem bQ {α:Type}{f:α->Array Value}{size:Nat}(hf:∀ x,(f x).size=size):∀ (l:List α),(l.flatMap λx=>(f x).toList).length=l.length*size
 | []=>by simp
 | x::l=>by
  simp only [List.flatMap_cons,List.length_append,bQ hf l,List.length_cons,Array.length_toList,hf]
  rw [Nat.add_mul,Nat.one_mul,Nat.add_comm]
theorem nX {α:Type}{f:α->Array Value}{size:Nat}(hf:∀ x,(f x).size=size) (d:α):∀ (l:List α) (k j:Nat),k<l.length->j<size->(l.flatMap λx=>(f x).toList)[k*size+j]?=(f (l.getD k d))[j]?
 | [],k,j,h,_=>by simp at h
 | x::l,0,j,_,hj=>by
  simp only [List.flatMap_cons,Nat.zero_mul,Nat.zero_add]
  rw [List.getElem?_append_left (by rw [Array.length_toList,hf];exact hj)]
  simp
 | x::l,k+1,j,h,hj=>by
  simp only [List.flatMap_cons]
  rw [List.getElem?_append_right (by rw [Array.length_toList,hf,Nat.add_mul];omega),Array.length_toList,hf]
  rw [show(k+1)*size+j-size=k*size+j from by rw [Nat.add_mul];omega]
  rw [nX hf d l k j (by simpa using h) hj]
  simp
section
variable {w0 w : World} {L : List bA} {α : Type} {ad : Option Addr} {c size : Nat} {e : TypeId} {f : α -> Array Value} {l : List α}
theorem Sl.rows (hf:∀ x,(f x).size=size) (h:(Sl ad c e size f l).holds w) (d:α):aC w ad l.length size (λk=>f (l.getD k d)):=λhn=>by
 have h0:w.ownsRow 0 e size (.slice ad l.length c) l.length (l.flatMap λx=>(f x).toList):=h
 rcases h0.2 with⟨h1,h2⟩|⟨g,cap,cur,hv,_⟩
 ·omega
 ·simp only [Value.slice.injEq] at hv
  obtain⟨rfl,_,rfl⟩:=hv
  refine⟨g,0,rfl,λk hk j hj=>?_⟩
  rw [Nat.zero_add]
  have hlt:k*size+j<l.length*size:=by
   calc k*size+j<k*size+size:=za
    _=(k+1)*size:=by rw [Nat.add_mul,Nat.one_mul]
    _<=l.length*size:=Nat.mul_le_mul_right _ hk
  rw [h0.cellAt _ hlt]
  exact nX hf d l k j hk hj
theorem St.rows (hs:St w0 L w) (i:Nat) (hi:L[i]?=some (Sl ad c e size f l)) (hf:∀ x,(f x).size=size) (d:α):aC w ad l.length size (λk=>f (l.getD k d)):=Sl.rows hf (hs.at_ i hi) d
theorem St.eB (hs:St w0 L w) (e:TypeId) (size:Nat) (f:α->Array Value):St w0 (Sl none 0 e size f []::L) w :=
 St.new hs rfl rfl rfl (Nat.le_refl _) (λ_ _=>rfl) (World.ownsRow_nil w 0 e size) (λb hb=>by simp [Sl,QQ,Value.ownBlock] at hb)
theorem St.iw {b:Nat}{cs:Array Value}{T:TypeId}(hs:St w0 (aB b cs T::L) w) (hz:w.heap[b]?=some (.cells cs T (0,0))) (hf:∀ x,(f x).size=size) (hl:l.length<=maxLen) (hcs:cs.toList=l.flatMap λx=>(f x).toList) :
 St w0 (Sl (some ⟨b,0,none⟩) l.length T size f l::L) w:=by
 refine St.step hs rfl rfl rfl (Nat.le_refl _) (λ_ _ _=>rfl) ?_ (λk hk=>⟨.inl ?_,?_⟩)
 ·refine⟨bQ hf l,.inr ⟨b,l.length,cs,rfl,Nat.zero_le _,hz,Nat.le_refl _,hl,?_,?_⟩⟩
  ·rw [<- Array.length_toList,hcs,bQ hf]
  ·rw [hcs,List.take_of_length_le (by rw [bQ hf];exact Nat.le_refl _)]
 ·have h1:(some b:Option Nat)=some k:=hk
  exact(Option.some.inj h1).symm
 ·have h1:(some b:Option Nat)=some k:=hk
  have h2:=Option.some.inj h1
  subst h2
  exact(Array.getElem?_eq_some_iff.1 hz).1
theorem St.grown {A A':bA}{w':World}{row:Option Nat}(hs:St w0 (A::L) w) (hg:w.grownBy w' row) (hrow:∀ b,row=some b->A.own b) (hA:A'.holds w') (hown:∀ b,A'.own b->(A.own b\/w.heap.size<=b)/\b<w'.heap.size):St w0 (A'::L) w' :=
 St.step hs hg.os hg.tape hg.output hg.size (λb hb hn=>hg.block b hb (λe=>hn (hrow b e.symm))) hA hown
variable {P : Program}
theorem yd {t ty:TypeId}{ti:TypeInfo}{z:Value}{bytes:Nat}(ht:P.underlying t=some (.slice e)) (hi:P.info? e=some ti) (hz:ti.zero=some z) (hsize:ti.size=size) (hby:ti.bytes=bytes) (hzs:z.cells.size=size) (hsz:0<size)
 (hf:∀ x,(f x).size=size) (h1:∀ x,∀ u∈(f x).toList,u.oneCell'=true) (hs:St w0 (Sl ad c e size f l::L) w) (d:α){adx:Option Addr}{cx:Nat}{ys:List α}(hx:aC w adx ys.length size (λk=>f (ys.getD k d))) (hxn:adx=none->cx=0)
 (h63:l.length+ys.length<=maxLen) (hb:(l.length+ys.length)*bytes<=140737488355328) :
 ∃ ad' c' w',(Builtin.append_ #[t,t] ty #[.slice ad l.length c,.slice adx ys.length cx]).run P w=.ok (.slice ad' (l++ys).length c') w'/\St w0 (Sl ad' c' e size f (l++ys)::L) w':=by
 have h0:w.ownsRow 0 e size (.slice ad l.length c) l.length (l.flatMap λx=>(f x).toList):=hs.holds _ (List.mem_cons_self ..)
 cases adx with
 | none =>
  have hcx:=hxn rfl
  subst hcx
  have hy:ys=[]:=by
   cases ys with
   | nil=>rfl
   | cons y ys =>
    obtain⟨b,off,hh,_⟩:=hx zw
    cases hh
  subst hy
  refine⟨ad,c,w,?_,by rw [List.append_nil];exact hs⟩
  rw [List.append_nil]
  exact run_append_owned_none w 0 t ty e ti size ht hi _ _ _ h0
 | some a =>
  have hnews:∀ j u,(ys.flatMap λx=>(f x).toList)[j]?=some u->w.cell? (a.add j)=some u:=by
   intro j u hj
   have hlen:j<ys.length*size:=by rw [<- bQ hf ys];exact(List.getElem?_eq_some_iff.1 hj).1
   have hy:0<ys.length:=by
    rcases Nat.eq_zero_or_pos ys.length with hz|hz
    ·rw [hz] at hlen;omega
    ·exact hz
   obtain⟨b,off,hh,hrow⟩:=hx hy
   simp only [Option.some.injEq] at hh
   subst hh
   have hk:j / size<ys.length:=Nat.div_lt_of_lt_mul (by rw [Nat.mul_comm];exact hlen)
   have hm:j % size<size:=Nat.mod_lt _ hsz
   have h2:=hrow (j / size) hk (j % size) hm
   have h3:=nX hf d ys (j / size) (j % size) hk hm
   have h4:j / size*size+j % size=j:=by rw [Nat.mul_comm];exact Nat.div_add_mod j size
   rw [Nat.add_assoc,h4] at h2
   rw [h4] at h3
   rw [dI,h2,<- h3]
   exact hj
  have hone:∀ u∈(ys.flatMap λx=>(f x).toList),u.oneCell'=true:=by
   intro u hu
   obtain⟨y,_,hy⟩:=List.mem_flatMap.1 hu
   exact h1 y u hy
  have hl:(l++ys).length=l.length+ys.length:=List.length_append
  have hfl:((l++ys).flatMap λx=>(f x).toList)=(l.flatMap λx=>(f x).toList)++(ys.flatMap λx=>(f x).toList):=List.flatMap_append
  have hny:=bQ hf ys
  have hsmall:l.length+ys.length<=9223372036854775807:=by simp only [maxLen] at h63;omega
  subst hby
  have fresh:∀ cap,St w0 (Sl (some ⟨w.heap.size,0,none⟩) (grownCap w (l.length+ys.length) cap e) e size f (l++ys)::L)
   (w.drew.alloc (.cells ((l.flatMap λx=>(f x).toList).toArray++(ys.flatMap λx=>(f x).toList).toArray++Builtin.zeroCells z.cells (grownCap w (l.length+ys.length) cap e-(l.length+ys.length))) e)):=by
   intro cap
   have hge:=grownCap_ge w (l.length+ys.length) cap e
   have hcm:grownCap w (l.length+ys.length) cap e<=maxLen:=grownCap_le_maxLen w (l.length+ys.length) cap e h63
   refine St.step hs rfl rfl rfl zw (λk hk _=>heap_alloc_old w.drew _ hk) ?_ (λk hk=>⟨.inr ?_,?_⟩)
   ·show World.ownsRow _ 0 e size (.slice _ (l++ys).length _) (l++ys).length ((l++ys).flatMap λx=>(f x).toList)
    rw [hl,hfl]
    refine⟨by rw [List.length_append,bQ hf,bQ hf,Nat.add_mul],.inr ⟨w.heap.size,_,_,rfl,Nat.zero_le _,heap_alloc_new w.drew _,hge,hcm,?_,?_⟩⟩
    ·simp only [Array.size_append,List.size_toArray,size_zeroCells,hzs,bQ hf,<- Nat.add_mul]
     congr 1
     omega
    ·have h9:(l.length+ys.length)*size=((l.flatMap λx=>(f x).toList)++(ys.flatMap λx=>(f x).toList)).length:=by rw [List.length_append,bQ hf,bQ hf,Nat.add_mul]
     simp only [Array.toList_append,List.append_assoc]
     rw [<- List.append_assoc,h9]
     exact List.take_left
   ·have h1:(some w.heap.size:Option Nat)=some k:=hk
    have h2:=Option.some.inj h1
    omega
   ·have h1:(some w.heap.size:Option Nat)=some k:=hk
    have h2:=Option.some.inj h1
    subst h2
    simp
  rcases h0.2 with⟨h3,h4⟩|⟨g,cap,cur,h3,hbg,hg,hnc,hcm,hcs,htake⟩
  ·simp only [Value.slice.injEq] at h3
   obtain⟨rfl,_,rfl⟩:=h3
   have hle:l=[]:=List.eq_nil_of_length_eq_zero h4
   subst hle
   by_cases hm:ys.length=0
   ·have hye:ys=[]:=List.eq_nil_of_length_eq_zero hm
    subst hye
    refine⟨none,0,w,?_,by rw [List.append_nil];exact hs⟩
    simp [Builtin.append_,run_underlying ht,sizeOf,typeInfo,hi,Builtin.lenOf,Builtin.firstCells,loadCells,loadCellsFrom]
   ·have hr:=run_append_nil (P:=P) w t ty e ti z ht hi hz a ys.length cx _ (by rw [hny,hsize]) hnews za (by simp only [List.length_nil,Nat.zero_add] at hsmall;omega) (by have hb':=hb;simp only [List.length_nil,Nat.zero_add] at hb';omega)
    have hfr:=fresh 0
    simp only [List.length_nil,Nat.zero_add,List.nil_append,List.flatMap_nil,Array.empty_append] at hfr hr ⊢
    exact⟨_,_,_,hr,hfr⟩
  ·simp only [Value.slice.injEq] at h3
   obtain⟨rfl,_,rfl⟩:=h3
   by_cases hroom:l.length+ys.length<=c
   ·obtain⟨w',hr,hown,hgr⟩:=run_append_fits (P:=P) w 0 t ty e ti size ht hi hsize g l.length c _ h0 a ys.length cx _ hny hnews hone hroom
    refine⟨some ⟨g,0,none⟩,c,w',by rw [hl];exact hr,?_⟩
    have hown':(Sl (some ⟨g,0,none⟩) c e size f (l++ys)).holds w':=by
     show w'.ownsRow 0 e size (.slice _ (l++ys).length c) (l++ys).length ((l++ys).flatMap λx=>(f x).toList)
     rw [hl,hfl]
     exact hown
    refine St.grown hs hgr (λb hb=>hb) hown' (λb hb=>⟨.inl hb,?_⟩)
    have h1:(some g:Option Nat)=some b:=hb
    have h2:=Option.some.inj h1
    subst h2
    exact Nat.lt_of_lt_of_le (Array.getElem?_eq_some_iff.1 hg).1 hgr.size
   ·have holds:∀ j u,(l.flatMap λx=>(f x).toList)[j]?=some u->w.cell? ((⟨g,0,none⟩:Addr).add j)=some u:=h0.cells (g:=g) rfl
    have hr:=run_append_grow (P:=P) w t ty e ti z ht hi hz ⟨g,0,none⟩ l.length c _ (by rw [bQ hf,hsize]) holds a ys.length cx _ (by rw [hny,hsize]) hnews za za (growslice_fits za hb)
    exact⟨_,_,_,by rw [hl];exact hr,fresh c⟩
end
theorem CG (x y:ByteArray):(x.toList == y.toList)=decide (x=y):=by
 by_cases h:x=y
 ·subst h;simp
 ·rw [decide_eq_false h]
  refine beq_eq_false_iff_ne.2 λe=>h ?_
  rw [ByteArray.toList_eq,ByteArray.toList_eq] at e
  cases x;cases y
  simpa using e
section
variable {P : Program}
def iP (P:Program) (t:TypeId):Bool :=
 match P.underlying t with
 | some (.struct _)=>true
 | some (.array _ _)=>true
 | _=>false
def partV (P:Program) (t:TypeId) (cs:Array Value) (off:Nat):Value:=if iP P t then .agg (cs.extract off (off+P.cellsOf t)) else (cs[off]?).getD undef
def partOK (P:Program) (t:TypeId) (cs:Array Value) (off:Nat):Bool:=(P.info? t).isSome && (P.underlying t).isSome && (iP P t || (cs[off]?).isSome)
theorem rf {t:TypeId}{cs:Array Value}{off:Nat}(w:World) (h:partOK P t cs off=true):(part t cs off).run P w=.ok (partV P t cs off) w:=by
 simp only [partOK,Bool.and_eq_true,Option.isSome_iff_exists] at h
 obtain⟨⟨⟨ti,hi⟩,⟨d,hd⟩⟩,h2⟩:=h
 have hsz:P.cellsOf t=ti.size:=by simp [Program.cellsOf,hi]
 cases hb:iP P t with
 | true =>
  have ha:(isAgg t).run P w=.ok true w:=by
   simp only [iP,hd] at hb
   simp only [isAgg,Sem.run_bind,run_underlying hd,Result.andThen_ok]
   cases d<;>first|rfl|simp at hb
  simp only [part,Sem.run_bind,ha,Result.andThen_ok,if_true,sizeOf,typeInfo,run_program,hi,Sem.run_pure,partV,hb,hsz]
 | false =>
  have ha:(isAgg t).run P w=.ok false w:=by
   simp only [iP,hd] at hb
   simp only [isAgg,Sem.run_bind,run_underlying hd,Result.andThen_ok]
   cases d<;>first|rfl|simp at hb
  rw [hb] at h2
  rw [Bool.false_or] at h2
  obtain⟨v,hv⟩:=Option.isSome_iff_exists.1 h2
  simp only [part,Sem.run_bind,ha,Result.andThen_ok,Bool.false_eq_true,if_false,hv,Sem.run_pure,partV,hb,Option.getD_some]
def gF (P:Program):Nat->TypeId->Value->Value->Bool
 | 0,_,_,_=>false
 | m+1,t,x,y =>
  match P.underlying t,x,y with
  | some .bool,.bool a,.bool b=>a == b
  | some (.int _),.int _ a,.int _ b=>a == b
  | some .string,.string a,.string b=>a.toList == b.toList
  | some (.struct fs),.agg xs,.agg ys=>fs.toList.all λf=>gF P m f.type (partV P f.type xs f.offset) (partV P f.type ys f.offset)
  | some (.array n e),.agg xs,.agg ys=>(List.range n).all λi=>gF P m e (partV P e xs (i*P.cellsOf e)) (partV P e ys (i*P.cellsOf e))
  | _,_,_=>false
def okEq (P:Program):Nat->TypeId->Value->Value->Bool
 | 0,_,_,_=>false
 | m+1,t,x,y =>
  match P.underlying t,x,y with
  | some .bool,.bool _,.bool _=>true
  | some (.int _),.int k _,.int k' _=>k == k'
  | some .string,.string _,.string _=>true
  | some (.struct fs), .agg xs, .agg ys => !(P.stoodInHeld t) && fs.toList.all fun f => f.name != "_" && partOK P f.type xs f.offset && partOK P f.type ys f.offset && okEq P m f.type (partV P f.type xs f.offset) (partV P f.type ys f.offset)
  | some (.array n e),.agg xs,.agg ys=>(P.info? e).isSome && (List.range n).all λi=>partOK P e xs (i*P.cellsOf e) && partOK P e ys (i*P.cellsOf e) && okEq P m e (partV P e xs (i*P.cellsOf e)) (partV P e ys (i*P.cellsOf e))
  | _,_,_=>false
theorem rh (d:Nat) (xs ys:Array Value) (r:Field->Bool) (w:World):∀ (fs:List Field),
 (∀ f ∈ fs, f.name ≠ "_" ∧ partOK P f.type xs f.offset = true ∧ partOK P f.type ys f.offset = true ∧ (Op.equalIn d f.type (partV P f.type xs f.offset) (partV P f.type ys f.offset)).run P w = .ok (r f) w) →
 (Op.eqFields d xs ys fs).run P w=.ok (fs.all r) w
 | [],_=>by simp [Op.eqFields]
 | f::fs,h=>by
  obtain⟨h1,h2,h3,h4⟩:=h f (List.mem_cons_self ..)
  have ih:=rh d xs ys r w fs λg hg=>h g (List.mem_cons_of_mem _ hg)
  simp only [Op.eqFields,h1,ne_eq,not_false_eq_true,if_true,Sem.run_bind,rf w h2,rf w h3,Result.andThen_ok,h4,List.all_cons]
  cases r f
  ·simp
  ·simpa using ih
theorem run_equalIn_array {t e:TypeId}{n:Nat}(d:Nat) (xs ys:Array Value) (r:Nat->Bool) (w:World) (ht:P.underlying t=some (.array n e)){ei:TypeInfo}(he:P.info? e=some ei)
 (h:∀ i,i<n->partOK P e xs (i*P.cellsOf e)=true/\partOK P e ys (i*P.cellsOf e)=true/\(Op.equalIn d e (partV P e xs (i*P.cellsOf e)) (partV P e ys (i*P.cellsOf e))).run P w=.ok (r i) w) :
 (Op.equalIn (d+1) t (.agg xs) (.agg ys)).run P w=.ok ((List.range n).all r) w:=by
 have hsz:P.cellsOf e=ei.size:=by simp [Program.cellsOf,he]
 rw [hsz] at h
 simp only [Op.equalIn,Sem.run_bind,run_underlying ht,Result.andThen_ok,sizeOf,typeInfo,run_program,he,Sem.run_pure]
 simp only [Std.Legacy.Range.forIn_eq_forIn_range',Std.Legacy.Range.size,Nat.sub_zero,Nat.add_one_sub_one,Nat.div_one]
 have hr:(List.range n).all r=(List.range' 0 n).all r:=by rw [List.range_eq_range']
 rw [hr]
 have hlt:∀ i∈List.range' 0 n,i<n:=λi hi=>by
  have:=List.mem_range'.1 hi
  omega
 generalize List.range' 0 n=is at hlt
 induction is with
 | nil=>simp
 | cons i is ih =>
  obtain⟨h1,h2,h3⟩:=h i (hlt i zw)
  have ih':=ih λk hk=>hlt k (by simp [hk])
  simp only [List.forIn_cons,Sem.run_bind,rf w h1,rf w h2,Result.andThen_ok,h3,List.all_cons]
  cases hri:r i
  ·simp
  ·simpa using ih'
theorem mA:∀ (m:Nat) (t:TypeId) (x y:Value) (d:Nat) (w:World),okEq P m t x y=true->(Op.equalIn (d+m) t x y).run P w=.ok (gF P m t x y) w:=by
 intro m
 induction m with
 | zero=>intro t x y d w h;cases h
 | succ m ih =>
  intro t x y d w h
  unfold okEq at h
  unfold gF
  rw [<- Nat.add_assoc]
  split at h
  ·rename_i a b hu
   exact run_equalIn_bool w _ t a b hu
  ·rename_i k0 k a k' b hu
   obtain rfl:k=k':=by simpa using h
   exact run_equalIn_int w _ t k k0 a b hu
  ·rename_i a b hu
   exact run_equalIn_string w _ t a b hu
  ·rename_i fs xs ys hu
   simp only [Bool.and_eq_true,Bool.not_eq_true',List.all_eq_true,bne_iff_ne,ne_eq] at h
   have hfo:P.fieldsOf t=fs:=by simp [Program.fieldsOf,hu]
   rw [run_equalIn_struct w (d+m) t xs ys (by rw [hfo];exact hu) h.1,hfo]
   refine rh (d+m) xs ys _ w fs.toList λf hf=>?_
   obtain⟨⟨⟨h1,h2⟩,h3⟩,h4⟩:=h.2 f hf
   exact⟨h1,h2,h3,ih _ _ _ d w h4⟩
  ·rename_i n e xs ys hu
   simp only [Bool.and_eq_true,List.all_eq_true,List.mem_range] at h
   obtain⟨ei,he⟩:=Option.isSome_iff_exists.1 h.1
   refine run_equalIn_array (d+m) xs ys _ w hu he λi hi=>?_
   obtain⟨⟨h1,h2⟩,h3⟩:=h.2 i hi
   exact⟨h1,h2,ih _ _ _ d w h3⟩
  ·cases h
def E6 (S:Env) (o:Oper):Option (Bool×TypeId×Array Value×Array Value) :=
 match o.op with
 | .binOp .eql t x y _=>match S.op x,S.op y with
  | some (.agg xs),some (.agg ys)=>some (true,t,xs,ys)
  | _,_=>none
 | .binOp .neq t x y _=>match S.op x,S.op y with
  | some (.agg xs),some (.agg ys)=>some (false,t,xs,ys)
  | _,_=>none
 | _=>none
theorem E7 {N:Fr}{S:Env}{a:Act}(hf:Fits N S a){o:Oper}{b:Bool}{t:TypeId}{xs ys:Array Value}{m:Nat}(h:E6 S o=some (b,t,xs,ys)) (hg:P.eqGuardType P.depth t=false) (hm:m<=10000)
 (hok:okEq P m t (.agg xs) (.agg ys)=true) (w:World):(execOp a.eval o).run P w=.ok (.value (.bool (if b then gF P m t (.agg xs) (.agg ys) else !(gF P m t (.agg xs) (.agg ys))))) w:=by
 have hr:=mA m t (.agg xs) (.agg ys) (10000-m) w hok
 rw [Nat.sub_add_cancel hm] at hr
 unfold E6 at h
 split at h
 ·rename_i t' x y t2 ho
  split at h
  ·rename_i xs' ys' hx hy
   simp only [Option.some.injEq,Prod.mk.injEq] at h
   obtain⟨rfl,rfl,rfl,rfl⟩:=h
   have hx':=hf.op hx
   have hy':=hf.op hy
   generalize a.eval=ρ at hx' hy' ⊢
   have hgd:=run_eqGuard_agg (P:=P) w .eql t' x y xs' ys' hg
   have hbo:=run_eql_struct (P:=P) w t' xs' ys'
   rw [hr] at hbo
   simp only [execOp,ho,hx',hy',Sem.run_bind,hgd,hbo,Result.andThen_ok,if_true]
   rfl
  ·cases h
 ·rename_i t' x y t2 ho
  split at h
  ·rename_i xs' ys' hx hy
   simp only [Option.some.injEq,Prod.mk.injEq] at h
   obtain⟨rfl,rfl,rfl,rfl⟩:=h
   have hx':=hf.op hx
   have hy':=hf.op hy
   generalize a.eval=ρ at hx' hy' ⊢
   have hgd:=run_eqGuard_agg (P:=P) w .neq t' x y xs' ys' hg
   have hbo:=run_neq_struct (P:=P) w t' xs' ys'
   rw [hr] at hbo
   simp only [execOp,ho,hx',hy',Sem.run_bind,hgd,hbo,Result.andThen_ok,Bool.false_eq_true,if_false]
   rfl
  ·cases h
 ·cases h
end
section
variable {P : Program} {N : Fr} {S : Env} {w w0 : World} {L : List bA}
theorem ri {t:TypeId}{ti:TypeInfo}(hi:P.info? t=some ti) (ha:iP P t=true){b:Nat}{off:Nat}{vs:Array Value}(hsz:vs.size=ti.size) (hc:∀ i,i<vs.size->w.cell? ((Addr.mk b off none).add i)=vs[i]?) :
 (loadVar t ⟨b,off,none⟩).run P w=.ok (.agg vs) w:=by
 refine nE hi (λw=>?_) _ _ hsz hc
 unfold iP at ha
 cases hu:P.underlying t with
 | none=>rw [hu] at ha;cases ha
 | some d =>
  rw [hu] at ha
  simp only [isAgg,Sem.run_bind,run_underlying hu,Result.andThen_ok]
  cases d<;>first|rfl|simp at ha
theorem dS {fn:Func}{t:Tmp}{ty:TypeId}{ti:TypeInfo}{b:Nat}{off:Nat}{vs:Array Value}(hr:fn.results=#[.cell t ty]) (hg:S.get t=some (.pointer (some ⟨b,off,none⟩))) (hi:P.info? ty=some ti) (ha:iP P ty=true) (hsz:vs.size=ti.size)
 (hc:∀ i,i<vs.size->w.cell? ((Addr.mk b off none).add i)=vs[i]?) (a:Act) (hf:Fits N S a):(results fn a.tmps).run P w=.ok (.agg vs) w:=by
 have h1:=hf.get hg
 have h2:=ri (P:=P) (w:=w) hi ha hsz hc
 rw [Array.getD_eq_getD_getElem?] at h1
 unfold results
 rw [hr]
 simp [asAddr,h1,h2,Sem.run_bind]
theorem sC {fn:Func}{t u:Tmp}{ty:TypeId}{ti:TypeInfo}{b:Nat}{off:Nat}{vs:Array Value}{v2:Value}(hr:fn.results=#[.cell t ty,.tmp u]) (hg:S.get t=some (.pointer (some ⟨b,off,none⟩))) (hu:S.get u=some v2) (hi:P.info? ty=some ti) (ha:iP P ty=true) (hsz:vs.size=ti.size)
 (hc:∀ i,i<vs.size->w.cell? ((Addr.mk b off none).add i)=vs[i]?) (a:Act) (hf:Fits N S a):(results fn a.tmps).run P w=.ok (.tuple #[.agg vs,v2]) w:=by
 have h1:=hf.get hg
 have h3:=hf.get hu
 have h2:=ri (P:=P) (w:=w) hi ha hsz hc
 rw [Array.getD_eq_getD_getElem?] at h1 h3
 unfold results
 rw [hr]
 simp [asAddr,h1,h2,h3,Sem.run_bind]
end
structure hU (P:Program) (t e:TypeId) (size bytes:Nat):Prop where
 CA:P.underlying t=some (.slice e)
 info:∃ ti z,P.info? e=some ti/\ti.zero=some z/\ti.size=size/\ti.bytes=bytes/\z.cells.size=size
 pos:0<size
structure fD {α:Type}(f:α->Array Value) (size:Nat):Prop where
 size:∀ x,(f x).size=size
 one:∀ x,(f x).toList.all Value.oneCell'=true
theorem fD.NG {α:Type}{f:α->Array Value}{size:Nat}(h:fD f size):∀ x,∀ u∈(f x).toList,u.oneCell'=true:=λx u hu=>List.all_eq_true.1 (h.one x) u hu
section
variable {P : Program} {R0 : Exit -> Act -> World -> Prop} {N : Fr} {K : List fQ} {S : Env} {w w0 : World} {l : List Oper} {M : List Nat} {A : dN} {rest : PT} {L : List bA}
def pR (S:Env) (o:Oper):Option (Builtin×List TypeId×List Value) :=
 match o.op with
 | .call c =>
  match c.callee,S.ops c.args.toList with
  | .builtin b,some vs=>some (b,c.argTypes.toList,vs)
  | _,_=>none
 | _=>none
theorem kW {a:Act}(hf:Fits N S a){o:Oper}{b:Builtin}{ts:List TypeId}{vs:List Value}(h:pR S o=some (b,ts,vs)) (w:World) :
 ∃ cs:Array Bool,(execOp a.eval o).run P w=(builtin b ts.toArray o.type cs vs.toArray).run P w:=by
 unfold pR at h
 split at h
 ·rename_i c hc
  split at h
  ·rename_i b' vs' h1 h2
   simp only [Option.some.injEq,Prod.mk.injEq] at h
   obtain⟨rfl,rfl,rfl⟩:=h
   have h3:=hf.ops h2
   have h4:c.args.map a.eval=vs'.toArray:=by
    rw [<- h3]
    apply Array.ext'
    simp
   generalize a.eval=ρ at h4 ⊢
   exact⟨_,by simp [execOp,hc,resolve,h1,h4,invoke];rfl⟩
  ·cases h
 ·cases h
theorem aL.append {α:Type}{i:Nat}{o:Oper}(ho:l[i]?=some o) (hw:cZ l.toArray S o=some true){t e:TypeId}{size bytes:Nat}(he:hU P t e size bytes){f:α->Array Value}(hf:fD f size){ad:Option Addr}{c:Nat}{xs ys:List α}{adx:Option Addr}{cx:Nat}(d:α)
 (hb:pR S o=some (.append,[t,t],[.slice ad xs.length c,.slice adx ys.length cx])) (hs:St w0 (Sl ad c e size f xs::L) w) (hx:aC w adx ys.length size (λk=>f (ys.getD k d))) (hxn:adx=none->cx=0) (hlen:(xs.length+ys.length)*bytes<=140737488355328) (hlen2:xs.length+ys.length<=9223372036854775807)
 (h:∀ ad' c' w',St w0 (Sl ad' c' e size f (xs++ys)::L) w'->bH w' (opens M A i)/\aL P l M R0 K N A rest (S.dO o.dst (.slice ad' (xs++ys).length c')) w'):aL P l M R0 K N A (.ef i rest) S w:=by
 obtain⟨ti,z,h1,h2,h3,h4,h5⟩:=he.info
 obtain⟨ad',c',w',hr,hs'⟩:=yd (P:=P) (ty:=o.type) he.CA h1 h2 h3 h4 h5 he.pos hf.size hf.NG hs d hx hxn zH hlen
 obtain⟨k1,k2⟩:=h ad' c' w' hs'
 refine aL.run ho hw _ w' (λa hfit=>.inl ?_) k1 k2
 obtain⟨cs,hrun⟩:=kW (P:=P) hfit hb w
 rw [hrun]
 simp only [builtin,Sem.run_bind]
 rw [hr]
 rfl
def po (S:Env) (o:Oper):Option (TypeId×Nat×List (Nat×Value)) :=
 match o.op with
 | .buildSlice t n parts=>match S.ops (parts.toList.map (·.2)) with
  | some vs=>some (t,n,(parts.toList.map (·.1)).zip vs)
  | none=>none
 | _=>none
theorem aL.bU {i:Nat}{o:Oper}(ho:l[i]?=some o) (hw:cZ l.toArray S o=some true){t e:TypeId}{n:Nat}{ps:List (Nat×Value)}(hl:po S o=some (t,n,ps)) (hu:P.underlying t=some (.slice e)){ti:TypeInfo}{z:Value}(hi:P.info? e=some ti) (hz:ti.zero=some z)
 (hsmall:n*ti.size<=16777216) (hpos:n*ti.size≠0){cs:Array Value}(hfill:Instr.fill (λi=>some (i*ti.size,ti.size)) ((Array.range (n*ti.size)).map (z.cells[· % z.cells.size]!)) ps=some cs) (hs:St w0 L w)
 (h:∀ b w',St w0 (aB b cs e::L) w'->w'.heap[b]?=some (.cells cs e (0,0))->bH w' (opens M A i)/\aL P l M R0 K N A rest (S.dO o.dst (.slice (some ⟨b,0,none⟩) n n)) w'):aL P l M R0 K N A (.ef i rest) S w:=by
 obtain⟨k1,k2⟩:=h _ _ (hs.gM cs e) zw
 refine aL.run ho hw _ _ (λa hfit=>.inl ?_) k1 k2
 unfold po at hl
 split at hl
 ·rename_i t' n' parts hop
  split at hl
  ·rename_i vs hvs
   simp only [Option.some.injEq,Prod.mk.injEq] at hl
   obtain⟨rfl,rfl,rfl⟩:=hl
   have h3:=hfit.ops hvs
   have h4:(parts.map λ(i,x)=>(i,a.eval x)).toList=(parts.toList.map (·.1)).zip vs:=by
    rw [<- h3]
    simp only [Array.toList_map]
    generalize parts.toList=q
    induction q with
    | nil=>rfl
    | cons y q ih=>simp [ih]
   generalize a.eval=ρ at h4 ⊢
   have hns:¬ (n'*ti.size>2 ^ 24):=za
   simp only [execOp,hop,Instr.buildSlice,Sem.run_bind,run_underlying hu,Result.andThen_ok,sizeOf,typeInfo,run_program,hi,Sem.run_pure,hns,if_false,hpos,zeroValue,hz,h4,hfill,newRow,newObj]
   simp [Sem.run]
  ·cases hl
 ·cases hl
theorem aL.vC {i:Nat}{o:Oper}(ho:l[i]?=some o) (hw:cZ l.toArray S o=some true){b:Bool}{t:TypeId}{xs ys:Array Value}{m:Nat}(he:E6 S o=some (b,t,xs,ys)) (hg:P.eqGuardType P.depth t=false) (hm:m<=10000)
 (hok:okEq P m t (.agg xs) (.agg ys)=true){r:Bool}(hr:(if b then gF P m t (.agg xs) (.agg ys) else !(gF P m t (.agg xs) (.agg ys)))=r)
 (h:aL P l M R0 K N A rest (S.dO o.dst (.bool r)) w):aL P l M R0 K N A (.rd i rest) S w:=λhN a hf=>by
 subst hr
 refine⟨o,_,λ_=>True,by simpa using ho,.inl ⟨fH hf hw (iu hN),λw' _=>E7 hf he hg hm hok w'⟩,trivial,?_⟩
 exact bZ.mS i (λ_=>trivial) _ _ _ _ (h hN _ (hf.dO (gx hN i o (by simpa using ho)) _))
end
def Rf (P:Program) (e:TypeId) (cs:Array Value):Value:=if iP P e then .agg cs else cs.getD 0 undef
def Qa (P:Program) (e:TypeId){α:Type}(f:α->Array Value):Nat->List α->List (Nat×Value)
 | _,[]=>[]
 | k,x::l=>(k,Rf P e (f x))::Qa P e f (k+1) l
def QR (P:Program) (e:TypeId) (n:Nat) (ps:List (Nat×Value)):Option (Array Value) :=
 (P.info? e).bind λti=>ti.zero.bind λz=>if n*ti.size<=16777216/\n*ti.size≠0/\n<=16777216 then Instr.fill (λi=>some (i*ti.size,ti.size)) ((Array.range (n*ti.size)).map (z.cells[· % z.cells.size]!)) ps else none
def gO (l:List Oper) (i:Nat):Oper:=match l[i]? with
 | some o=>o
 | none=>(default:Oper)
theorem pS {l:List Oper}{i:Nat}(h:Nat.blt i l.length=true):l[i]?=some (gO l i):=by
 have h':=Nat.blt_eq.mp h
 unfold gO
 rw [List.getElem?_eq_getElem h']
abbrev Rw (w0:World) (L:List bA){α:Type}(f:α->Array Value) (n:Nat) (d:α) (ad:Option Addr) (l:List α):Prop:=∀ w,St w0 L w->aC w ad l.length n (λk=>f (l.getD k d))
abbrev Cs (P:Program) (f:FuncId) (args:Array Value) (w:World) (φ:Value->World->Prop):Prop:=Calls P f args w (eD φ)
section
variable {P : Program} {R0 : Exit -> Act -> World -> Prop} {N : Fr} {K : List fQ} {S : Env} {w w0 : World} {l : List Oper} {M : List Nat} {A : dN} {rest : PT} {L : List bA} {i : Nat} {o : Oper}
theorem CB {α:Type}{t e:TypeId}{size bytes:Nat}(he:hU P t e size bytes){f:α->Array Value}(hf:fD f size) (xs:List α) (hs:St w0 L w)
 (h:∀ b w',St w0 (Sl (some ⟨b,0,none⟩) xs.length e size f xs::L) w'->bH w' (opens M A i)/\aL P l M R0 K N A rest (S.dO (gO l i).dst (.slice (some ⟨b,0,none⟩) xs.length xs.length)) w')
 (hl:po S (gO l i)=some (t,xs.length,Qa P e f 0 xs):=by kernel_rfl) (hfill:QR P e xs.length (Qa P e f 0 xs)=some (xs.flatMap λx=>(f x).toList).toArray:=by kernel_rfl) (ho:Nat.blt i l.length=true:=by kernel_rfl) (hw:cZ l.toArray S (gO l i)=some true:=by kernel_rfl):aL P l M R0 K N A (.ef i rest) S w:=by
 unfold QR at hfill
 cases hi:P.info? e with
 | none=>rw [hi] at hfill;cases hfill
 | some ti =>
  rw [hi] at hfill
  simp only [Option.bind_some] at hfill
  cases hz:ti.zero with
  | none=>rw [hz] at hfill;cases hfill
  | some z =>
   rw [hz] at hfill
   simp only [Option.bind_some] at hfill
   split at hfill
   ·rename_i hc
    refine aL.bU (pS ho) hw hl he.CA hi hz hc.1 hc.2.1 hfill hs λb w' h1 h2=>h b w' (St.iw (l:=xs) (f:=f) h1 h2 hf.size ?_ ?_)
    ·exact Nat.le_trans hc.2.2 zb
    ·rfl
   ·cases hfill
theorem sD {α:Type}{t e:TypeId}{size bytes:Nat}(he:hU P t e size bytes){f:α->Array Value}(hf:fD f size) (d:α){ad:Option Addr}{c:Nat}{xs ys:List α}{b cx:Nat}{L:List bA}(hs:St w0 (Sl ad c e size f xs::Sl (some ⟨b,0,none⟩) cx e size f ys::L) w)
 (hlen:(xs.length+ys.length)*bytes<=140737488355328)
 (h:∀ ad' c' w',St w0 (Sl ad' c' e size f (xs++ys)::Sl (some ⟨b,0,none⟩) cx e size f ys::L) w'->bH w' (opens M A i)/\aL P l M R0 K N A rest (S.dO (gO l i).dst (.slice ad' (xs++ys).length c')) w')
 (hb:pR S (gO l i)=some (.append,[t,t],[.slice ad xs.length c,.slice (some ⟨b,0,none⟩) ys.length cx]):=by kernel_rfl) (h0:0<bytes:=by decide) (ho:Nat.blt i l.length=true:=by kernel_rfl) (hw:cZ l.toArray S (gO l i)=some true:=by kernel_rfl):aL P l M R0 K N A (.ef i rest) S w :=
 aL.append (pS ho) hw he hf (adx:=some ⟨b,0,none⟩) (cx:=cx) d hb hs (hs.rows 1 rfl hf.size d) (λh=>nomatch h) hlen (by have:=Nat.le_mul_of_pos_right (xs.length+ys.length) h0;omega) h
theorem tW {T:TypeId}(cs:Array Value) (hs:St w0 L w) (h:∀ b w',St w0 (aB b cs T::L) w'->bH w' (opens M A i)/\aL P l M R0 K N A rest (S.dO (gO l i).dst (.pointer (some ⟨b,0,none⟩))) w')
 (hz:(P.info? T).bind (·.zero)=some (.agg cs):=by kernel_rfl) (ho:Nat.blt i l.length=true:=by kernel_rfl) (hop:(gO l i).op=.alloc T:=by exact rfl) (hw:cZ l.toArray S (gO l i)=some true:=by kernel_rfl):aL P l M R0 K N A (.ef i rest) S w:=aL.alloc (pS ho) hop hw hz hs rfl h
theorem Ry {T:TypeId}{x:Operand}(v:Value) (cs:Array Value) (hs:St w0 L w) (h:∀ b w',St w0 (aB b cs T::L) w'->bH w' (opens M A i)/\aL P l M R0 K N A rest (S.dO (gO l i).dst (.pointer (some ⟨b,0,none⟩))) w')
 (hcs:v.cells=cs:=by kernel_rfl) (ho:Nat.blt i l.length=true:=by kernel_rfl) (hop:(gO l i).op=.box T x:=by exact rfl) (hw:cZ l.toArray S (gO l i)=some true:=by kernel_rfl) (hx:S.op x=some v:=by kernel_rfl):aL P l M R0 K N A (.ef i rest) S w:=aL.box (pS ho) hop hw hx hs hcs h
theorem mT {T:TypeId}{x:Operand}(cs:Array Value) (hs:St w0 L w) (h:∀ b w',St w0 (aB b cs T::L) w'->bH w' (opens M A i)/\aL P l M R0 K N A rest (S.dO (gO l i).dst (.pointer (some ⟨b,0,none⟩))) w')
 (ho:Nat.blt i l.length=true:=by kernel_rfl) (hop:(gO l i).op=.box T x:=by exact rfl) (hw:cZ l.toArray S (gO l i)=some true:=by kernel_rfl) (hx:S.op x=some (.agg cs):=by kernel_rfl):aL P l M R0 K N A (.ef i rest) S w:=aL.box (pS ho) hop hw hx hs rfl h
def OI (P:Program) (t:TypeId) (cs:Array Value) (off:Nat):Value:=if iP P t then .agg (cs.extract off (off+((P.info? t).map (·.size)).getD 0)) else cs.getD off undef
theorem Zu {t:TypeId}{x y:Operand}(j off:Nat) (cs':Array Value) (hs:St w0 L w){b:Nat}{cs:Array Value}{T:TypeId}{L':List bA} [c_:E4 L j b cs T cs' L']
 (h:∀ w',St w0 L' w'->bH w' (opens M A i)/\aL P l M R0 K N A rest (S.dO (gO l i).dst undef) w')
 (ho:Nat.blt i l.length=true:=by kernel_rfl) (hop:(gO l i).op=.store t x y:=by exact rfl) (hw:cZ l.toArray S (gO l i)=some true:=by kernel_rfl)
 (hx:S.op x=some (.pointer (some ⟨b,off,none⟩)):=by kernel_rfl) (hy:S.op y=some (OI P t cs' off):=by kernel_rfl)
 (hsz:(P.info? t).map (·.size)=some (OI P t cs' off).cells.size:=by kernel_rfl) (h1:(OI P t cs' off).cells.toList.all qZ=true:=by kernel_rfl) (hoff:Nat.ble (off+(OI P t cs' off).cells.size) cs.size=true:=by kernel_rfl)
 (hcs:aV cs off (OI P t cs' off).cells.toList=cs':=by kernel_rfl):aL P l M R0 K N A (.ef i rest) S w:=by
 cases hi:P.info? t with
 | none=>rw [hi] at hsz;cases hsz
 | some ti =>
  rw [hi] at hsz
  exact aL.store (pS ho) hop hw hx hy hi hs j c_.at_ (Option.some.inj hsz).symm h1 (Nat.le_of_ble_eq_true hoff) hcs c_.L4 h
theorem iy (d:Nat) (b:Bool) (h1:b=true->aL P l M R0 K N A rest (S.set d (.bool true)) w) (h2:b=false->aL P l M R0 K N A rest (S.set d (.bool false)) w) (hd:d<N.n:=by exact Nat.le_of_ble_eq_true rfl) (hg:S.get d=some (.bool b):=by kernel_rfl):aL P l M R0 K N A rest S w:=by
 cases hb:b with
 | true=>exact aL.JG d true hd hg hb (h1 hb)
 | false=>exact aL.JG d false hd hg hb (h2 hb)
theorem LY (d:Nat) (p:Prop) [Decidable p] (h1:p->aL P l M R0 K N A rest (S.set d (.bool true)) w) (h2:¬ p->aL P l M R0 K N A rest (S.set d (.bool false)) w) (hd:d<N.n:=by exact Nat.le_of_ble_eq_true rfl) (hg:S.get d=some (.bool (decide p)):=by kernel_rfl):aL P l M R0 K N A rest S w :=
 iy d (decide p) (λh=>h1 (of_decide_eq_true h)) (λh=>h2 (of_decide_eq_false h)) hd hg
theorem Zc {c:Call}{f:FuncId}{args:Array Value}{φ:Value->World->Prop}(spec:Calls P f args w (eD φ)) (h:∀ v w',φ v w'->bH w' (opens M A i)/\aL P l M R0 K N A rest (S.dO (gO l i).dst v) w')
 (hcall:∀ args w,(callFunc f args).run P w=.ok (.enter f args) w:=by exact λ_ _=>by kernel_rfl) (ho:Nat.blt i l.length=true:=by kernel_rfl) (hop:(gO l i).op=.call c:=by exact rfl) (hw:cZ l.toArray S (gO l i)=some true:=by kernel_rfl) (hc:mz S c=some (f,args):=by kernel_rfl):aL P l M R0 K N A (.ef i rest) S w :=
 aL.call (pS ho) hop hw hc hcall spec h
theorem CH {c:Call}{f:FuncId}{args:Array Value}{v:Value}{Q:World->Prop}(spec:Calls P f args w (eD λrv w'=>rv=v/\Q w')) (h:∀ w',Q w'->bH w' (opens M A i)/\aL P l M R0 K N A rest (S.dO (gO l i).dst v) w')
 (hcall:∀ args w,(callFunc f args).run P w=.ok (.enter f args) w:=by exact λ_ _=>by kernel_rfl) (ho:Nat.blt i l.length=true:=by kernel_rfl) (hop:(gO l i).op=.call c:=by exact rfl) (hw:cZ l.toArray S (gO l i)=some true:=by kernel_rfl) (hc:mz S c=some (f,args):=by kernel_rfl):aL P l M R0 K N A (.ef i rest) S w :=
 aL.call (pS ho) hop hw hc hcall spec λ_ w' q=>q.1▸h w' q.2
theorem qR (h:aL P l M R0 K N A rest (S.dO (gO l i).dst undef) w) (ho:Nat.blt i l.length=true:=by kernel_rfl) (hw:cZ l.toArray S (gO l i)=some false:=by kernel_rfl) (h0:opens M A i=[]:=by kernel_rfl):aL P l M R0 K N A (.ef i rest) S w:=aL.skip (pS ho) hw (yc h0) h
theorem E8 {a b:Bool}{Q:Prop}(e:a=b) (h:Q):Value.bool b=.bool a/\Q:=⟨by rw [e],h⟩
theorem kJ {hh:List (Nat×Hint)}{aa:dN}(a n:Nat) (q:HA w hh aa) (h3:aL P l M R0 K N (aa.reverse++A) rest (Cy P l.toArray (L3 hh a n) S) w) (h1:H3 P l.toArray (L3 hh a n) S=some aa:=by kernel_rfl):aL P l M R0 K N A (JI a n rest) S w:=Zp a n hh aa q h3 h1
theorem CI {n:Nat}{fn:Func}{φ:Value->World->Prop}{e:Exit}{t:Tmp}{ty:TypeId}{b:Nat}{cs:Array Value}(j:Nat) (hs:St w0 L w) [c:yL L j b cs] (h:φ (.agg cs) w) (he:e=.ret\/e=.normal:=by first|exact .inl rfl|exact .inr rfl) (hr:fn.results=#[.cell t ty]:=by exact rfl) (hg:S.get t=some (.pointer (some ⟨b,0,none⟩)):=by kernel_rfl)
 (hi:(P.info? ty).map (·.size)=some cs.size:=by kernel_rfl) (ha:iP P ty=true:=by kernel_rfl) (hc:cs.extract 0 (0+cs.size)=cs:=by kernel_rfl):aS P (bodyPost P fn (eD φ)) ⟨n,[],none⟩ [] e S w:=by
 obtain⟨T,hj⟩:=c.at_
 cases hi':P.info? ty with
 | none=>rw [hi'] at hi;cases hi
 | some ti =>
  rw [hi'] at hi
  exact aS.done he (λa hf=>dS hr hg hi' ha (Option.some.inj hi).symm (hs.cells j 0 hj hc) a hf) h
theorem Rv {n:Nat}{fn:Func}{φ:Value->World->Prop}{e:Exit}{t u:Tmp}{ty:TypeId}{b:Nat}{cs:Array Value}(j:Nat) (v2:Value) (hs:St w0 L w) [c:yL L j b cs] (h:φ (.tuple #[.agg cs,v2]) w) (he:e=.ret\/e=.normal:=by first|exact .inl rfl|exact .inr rfl) (hr:fn.results=#[.cell t ty,.tmp u]:=by exact rfl) (hg:S.get t=some (.pointer (some ⟨b,0,none⟩)):=by kernel_rfl) (hu:S.get u=some v2:=by kernel_rfl)
 (hi:(P.info? ty).map (·.size)=some cs.size:=by kernel_rfl) (ha:iP P ty=true:=by kernel_rfl) (hc:cs.extract 0 (0+cs.size)=cs:=by kernel_rfl):aS P (bodyPost P fn (eD φ)) ⟨n,[],none⟩ [] e S w:=by
 obtain⟨T,hj⟩:=c.at_
 cases hi':P.info? ty with
 | none=>rw [hi'] at hi;cases hi
 | some ti =>
  rw [hi'] at hi
  exact aS.done he (λa hf=>sC hr hg hu hi' ha (Option.some.inj hi).symm (hs.cells j 0 hj hc) a hf) h
def Qb (l:List Oper):List Nat:=(List.range l.length).foldl (λM i=>M++[(nD l.toArray i).foldl (λa j=>a ||| (1 <<< j) ||| M.getD j 0) 0]) []
theorem ZD {id:Nat}(p:PT) (hs:St w0 L w) (h:∀ w1,St w0 L w1->w1.heap=w.heap->aL P l (Qb l) R0 K N [] p S w1) (hm:P.follows .mixedOrders=true:=by kernel_rfl) (hok:qj l.toArray (Qb l) p=true:=by kernel_rfl) (hR:tV R0:=by exact aZ) (hN:mi N l.toArray=true:=by kernel_rfl):aX P R0 N K (.region id l.toArray true) S w :=
 aX.fI (Qb l) p hm hok hR hN hs h
theorem Qc {α:Type}{ad:Option Addr}{c size:Nat}{e:TypeId}{f:α->Array Value}{xs ys:List α}(hs:St w0 (Sl ad c e size f xs::L) w) (h:xs=ys):St w0 (Sl ad c e size f ys::L) w:=h▸hs
theorem Lq {k:Bool}{id:Nat}{y:Code}(h:Pb (k && (ND N l (fX 0 l.length []) && (L5 P l.toArray (qQ [] (fX 0 l.length []).lead) S && (fX 0 l.length []).cut.isDone))) (aX P R0 N K y (Cy P l.toArray (qQ [] (fX 0 l.length []).lead) S) w)):Pb k (aX P R0 N K (.seq (.region id l.toArray false) y) S w):=Ls (La (Lt h))
theorem Lz {y:Code}{p:PT}(h:Pb ((opens M A i).isEmpty && (L5 P l.toArray (qQ [] p.lead) S && p.cut.isDone)) (aX P R0 N K y (Cy P l.toArray (qQ [] p.lead) S) w)):bH w (opens M A i)/\aL P l M R0 (.code y::K) N A p S w:=Lo (cI (Lt h))
theorem Lw {k:Bool}{p:PT}(h:aL P l M R0 K N A p.cut (Cy P l.toArray (qQ [] p.lead) S) w) (hk:(k && L5 P l.toArray (qQ [] p.lead) S)=true:=by kernel_rfl):Pb k (aL P l M R0 K N A p S w):=Lu (Dz h hk)
end
end Go.Sx
namespace Go.Sx
open Go.RowKit
set_option linter.unusedVariables false
set_option linter.unusedSimpArgs false
set_option linter.unusedSectionVars false
def dP {α β:Type}(ek:α->Value) (ev:β->Value) (m:List ((α×β)×Nat)):Array MapEntry:=(m.map λx=>({ key:=ek x.1.1,val:=ev x.1.2,born:=x.2 }:MapEntry)).toArray
def posOf {α β:Type} [DecidableEq α] (m:List ((α×β)×Nat)) (k:α):Nat->Option (Nat×β)
 | i=>match m with
  | []=>none
  | x::m=>if x.1.1=k then some (i,x.1.2) else posOf m k (i+1)
structure gG (P:Program) (T:TypeId){α β:Type} [DecidableEq α] (ek:α->Value) (ev:β->Value) (K E:TypeId):Prop where
 CA:P.underlying T=some (.map K E)
 find:∀ (k:α) (w:World) (m:List ((α×β)×Nat)),(Instr.findKey K (ek k) (dP ek ev m).toList).run P w=.ok ((posOf m k 0).map λx=>(x.1,ev x.2)) w
 bits:∀ a,Instr.sameBits 10000 (ek a) (ek a)=true
 key:∀ em a (w:World),(Instr.checkKey em 10000 K (ek a)).run P w=.ok () w
theorem gG.now {P:Program}{T:TypeId}{α β:Type} [DecidableEq α] {ek:α->Value}{ev:β->Value}{K E:TypeId}(CA:P.underlying T=some (.map K E))
 (same:∃ d,P.underlying K=some d/\(∀ a b,Instr.sameNow d (ek a) (ek b)=some (decide (a=b)))/\((∃ k,d=.int k)\/d=.string\/d=.bool))
 (bits:∀ a,Instr.sameBits 10000 (ek a) (ek a)=true) (key:∀ em a (w:World),(Instr.checkKey em 10000 K (ek a)).run P w=.ok () w):gG P T ek ev K E:=by
 refine⟨CA,λk w m=>?_,bits,key⟩
 obtain⟨d,h1,h2,h3⟩:=same
 have key:∀ (m:List ((α×β)×Nat)) (i:Nat),Instr.findNow d (ek k) (dP ek ev m).toList i=some ((posOf m k i).map λx=>(x.1,ev x.2)):=by
  intro m
  induction m with
  | nil=>intro i;rfl
  | cons x m ih =>
   intro i
   have e1:(dP ek ev (x::m)).toList=({ key:=ek x.1.1,val:=ev x.1.2,born:=x.2 }:MapEntry)::(dP ek ev m).toList:=by simp [dP]
   rw [e1]
   simp only [Instr.findNow,h2]
   by_cases hx:k=x.1.1
   ·subst hx
    simp [posOf]
   ·have hx':¬ x.1.1=k:=λe=>hx e.symm
    simp only [decide_eq_false hx,ih,posOf,if_neg hx']
 simp only [Instr.findKey,Sem.run_bind,run_underlying h1,Result.andThen_ok,key,Sem.run_pure]
theorem gG.ask {P:Program}{T:TypeId}{α β:Type} [DecidableEq α] {ek:α->Value}{ev:β->Value}{K E:TypeId}(CA:P.underlying T=some (.map K E))
 {d:TypeDesc}(hd:P.underlying K=some d) (hno:∀ a b,Instr.sameNow d (ek a) (ek b)=none) (he:∀ a b (w:World),(Op.equal K (ek a) (ek b)).run P w=.ok (decide (a=b)) w)
 (bits:∀ a,Instr.sameBits 10000 (ek a) (ek a)=true) (key:∀ em a (w:World),(Instr.checkKey em 10000 K (ek a)).run P w=.ok () w):gG P T ek ev K E:=by
 refine⟨CA,λk w m=>?_,bits,key⟩
 have ask:∀ (m:List ((α×β)×Nat)) (i:Nat),(Instr.findAsking K (ek k) (dP ek ev m).toList i).run P w=.ok ((posOf m k i).map λx=>(x.1,ev x.2)) w:=by
  intro m
  induction m with
  | nil=>intro i;rfl
  | cons x m ih =>
   intro i
   have e1:(dP ek ev (x::m)).toList=({ key:=ek x.1.1,val:=ev x.1.2,born:=x.2 }:MapEntry)::(dP ek ev m).toList:=by simp [dP]
   rw [e1]
   simp only [Instr.findAsking,Sem.run_bind,he,Result.andThen_ok]
   by_cases hx:k=x.1.1
   ·subst hx
    simp [posOf,Sem.run_pure]
   ·have hx':¬ x.1.1=k:=λe=>hx e.symm
    simp only [decide_eq_false hx,Bool.false_eq_true,if_false,ih,posOf,if_neg hx']
 cases m with
 | nil=>simp only [Instr.findKey,Sem.run_bind,run_underlying hd,Result.andThen_ok,dP,List.map_nil,Instr.findNow,Sem.run_pure];rfl
 | cons x m =>
  have e1:(dP ek ev (x::m)).toList=({ key:=ek x.1.1,val:=ev x.1.2,born:=x.2 }:MapEntry)::(dP ek ev m).toList:=by simp [dP]
  have:=ask (x::m) 0
  rw [e1] at this ⊢
  simp only [Instr.findKey,Sem.run_bind,run_underlying hd,Result.andThen_ok,Instr.findNow,hno]
  exact this
section
variable {α β : Type} [DecidableEq α] {ek : α -> Value} {ev : β -> Value}
structure nF (ek:α->Value) (ev:β->Value) (r:Nat) (m:List (α×β)) (x:List ((α×β)×Nat)) (clk:Nat) (w:World):Prop where
 cN:w.heap[r]?=some (.map (dP ek ev x) clk)
 eq:x.map (λy:(α×β)×Nat=>y.1)=m
 lt:∀ y∈x,y.2<clk
 once:(x.map (λy:(α×β)×Nat=>y.2)).Nodup
 apart:(m.map (λy:α×β=>y.1)).Nodup
theorem nF.mono {r:Nat}{m:List (α×β)}{x:List ((α×β)×Nat)}{clk:Nat}{w w':World}(h:nF ek ev r m x clk w) (e:w'.heap[r]?=w.heap[r]?):nF ek ev r m x clk w':=⟨e.trans h.cN,h.eq,h.lt,h.once,h.apart⟩
def bR (ek:α->Value) (ev:β->Value) (r:Nat) (m:List (α×β)):bA :=
 ⟨λk=>k=r,λw=>∃ (x:List ((α×β)×Nat)) (clk:Nat),nF ek ev r m x clk w,λw w' h ⟨x,clk,h1⟩=>⟨x,clk,h1.mono (h r rfl)⟩⟩
def E9 (ek:α->Value) (ev:β->Value) (r:Nat) (m:List (α×β)) (s:Nat) (k:α):bA :=
 ⟨λk=>k=r,λw=>∃ (x:List ((α×β)×Nat)) (clk:Nat),nF ek ev r m x clk w/\∃ v,((k,v),s)∈x,λw w' h ⟨x,clk,h1,h2⟩=>⟨x,clk,h1.mono (h r rfl),h2⟩⟩
def pT (ek:α->Value) (ev:β->Value) (r it:Nat) (m done:List (α×β)):bA :=
 ⟨λk=>k=r\/k=it,λw=>r≠it/\∃ (x y:List ((α×β)×Nat)) (clk:Nat),nF ek ev r m x clk w/\w.heap[it]?=some (.mapIter (some r) clk (y.map (λz:(α×β)×Nat=>z.2)).toArray clk) /\
  y.map (λz:(α×β)×Nat=>z.1)=done/\(∀ z∈y,z∈x)/\(y.map (λz:(α×β)×Nat=>z.2)).Nodup,
  λw w' h ⟨h0,x,y,clk,h1,h2,h3⟩=>⟨h0,x,y,clk,h1.mono (h r (.inl rfl)),(h it (.inr rfl)).trans h2,h3⟩⟩
def jA (m:List (α×β)) (k:α):Option β:=(m.find? λx=>decide (x.1=k)).map (·.2)
def hY:List (α×β)->α->β->List (α×β)
 | [],k,v=>[(k,v)]
 | x::m,k,v=>if x.1=k then (k,v)::m else x::hY m k v
def qp:List (α×β)->α->List (α×β)
 | [],_=>[]
 | x::m,k=>if x.1=k then m else x::qp m k
theorem yM (k:α) (v:β):∀ m:List (α×β),∀ q,q∈(hY m k v).map (λy:α×β=>y.1)↔q=k\/q∈m.map (λy:α×β=>y.1)
 | [],q=>by simp [hY]
 | x::m,q=>by
  by_cases h:x.1=k
  ·subst h
   simp only [hY,if_true,List.map_cons,List.mem_cons]
   constructor
   ·rintro(h1|h1)
    ·exact .inl h1
    ·exact .inr (.inr h1)
   ·rintro(h1|h1|h1)
    ·exact .inl h1
    ·exact .inl h1
    ·exact .inr h1
  ·simp only [hY,if_neg h,List.map_cons,List.mem_cons,yM k v m q]
   constructor
   ·rintro(h1|h1|h1)
    ·exact .inr (.inl h1)
    ·exact .inl h1
    ·exact .inr (.inr h1)
   ·rintro(h1|h1|h1)
    ·exact .inr (.inl h1)
    ·exact .inl h1
    ·exact .inr (.inr h1)
theorem qq (k:α) (v:β):∀ m:List (α×β),(m.map (λy:α×β=>y.1)).Nodup->((hY m k v).map (λy:α×β=>y.1)).Nodup
 | [],_=>by simp [hY]
 | x::m,h=>by
  simp only [List.map_cons,List.nodup_cons] at h
  by_cases hx:x.1=k
  ·simp only [hY,if_pos hx,List.map_cons,List.nodup_cons]
   exact⟨hx▸h.1,h.2⟩
  ·simp only [hY,if_neg hx,List.map_cons,List.nodup_cons,yM]
   exact⟨λhq=>hq.elim hx h.1,qq k v m h.2⟩
theorem CJ (k:α):∀ m:List (α×β),(qp m k).Sublist m
 | []=>List.Sublist.refl _
 | x::m=>by
  by_cases hx:x.1=k
  ·simp only [qp,if_pos hx];exact List.sublist_cons_self ..
  ·simp only [qp,if_neg hx];exact(CJ k m).cons_cons x
variable {P : Program} {T K E : TypeId}
theorem run_checkKey (h:gG P T ek ev K E) (em:Bool) (k:α) (w:World):(Instr.checkKey em 10000 K (ek k)).run P w=.ok () w:=h.key em k w
theorem run_findKey (h:gG P T ek ev K E) (k:α) (w:World) (m:List ((α×β)×Nat)):(Instr.findKey K (ek k) (dP ek ev m).toList).run P w=.ok ((posOf m k 0).map λx=>(x.1,ev x.2)) w:=h.find k w m
theorem yN (k:α):∀ (m:List ((α×β)×Nat)) (i:Nat),(posOf m k i).map (·.2)=jA (m.map (·.1)) k
 | [],_=>rfl
 | x::m,i=>by
  by_cases hx:x.1.1=k
  ·simp [posOf,jA,hx]
  ·have ih:=yN k m (i+1)
   simp only [posOf,if_neg hx,ih,jA,List.map_cons,List.find?_cons,decide_eq_false hx]
end
section
variable {P : Program} {R0 : Exit -> Act -> World -> Prop} {N : Fr} {Kk : List fQ} {S : Env} {w w0 : World} {l : List Oper} {M : List Nat} {A : dN} {rest : PT} {L : List bA}
variable {α β : Type} [DecidableEq α] {ek : α -> Value} {ev : β -> Value} {T K E : TypeId}
theorem aL.makeMap {i:Nat}{o:Oper}{t:TypeId}(ho:l[i]?=some o) (hop:o.op=.makeMap t none) (hw:cZ l.toArray S o=some true) (ek:α->Value) (ev:β->Value) (hs:St w0 L w)
 (h:∀ r w',St w0 (bR ek ev r []::L) w'->bH w' (opens M A i)/\aL P l M R0 Kk N A rest (S.dO o.dst (.map (some r))) w'):aL P l M R0 Kk N A (.ef i rest) S w:=by
 have hn:=hs.AR (.map #[] 0)
 have hc:St w0 (bR ek ev w.heap.size []::L) { w with heap:=w.heap.push (.map #[] 0) }:=hn.conv (λh1=>⟨[],0,h1,rfl,by simp,by simp,by simp⟩) (λb hb=>hb)
 obtain⟨k1,k2⟩:=h _ _ hc
 refine aL.run ho hw _ _ (λa hf=>.inl ?_) k1 k2
 simp [execOp,hop,Instr.makeMap,newObj,Sem.run,Sem.run_bind]
def CK (S:Env) (o:Oper):Option (TypeId×Value×Value×Bool) :=
 match o.op with
 | .lookup t x i ok=>match S.op x,S.op i with
  | some m,some k=>some (t,m,k,ok)
  | _,_=>none
 | _=>none
theorem aL.lookup {i:Nat}{o:Oper}(ho:l[i]?=some o) (hw:cZ l.toArray S o=some true) (hl:gG P T ek ev K E){r:Nat}{k:α}{ok:Bool}(ha:CK S o=some (T,.map (some r),ek k,ok)) (hs:St w0 L w) (j:Nat){m:List (α×β)}(hj:L[j]?=some (bR ek ev r m))
 {z:Value}(hz:(P.info? E).bind (·.zero)=some z){v:Value}(hv:(if ok then .tuple #[((jA m k).map ev).getD z,.bool (jA m k).isSome] else ((jA m k).map ev).getD z)=v)
 (h:aL P l M R0 Kk N ((i,[.holds (bR ek ev r m).holds])::A) rest (S.dO o.dst v) w):aL P l M R0 Kk N A (.rd i rest) S w:=by
 subst hv
 refine aL.read ho hw [.holds (bR ek ev r m).holds] _ (λa w' hf hn=>?_) ⟨hs.at_ j hj,trivial⟩ h
 obtain⟨x,clk,hb,rfl,-⟩:=hn.1
 have hg:(getObj r).run P w'=.ok (.map (dP ek ev x) clk) w':=by simp [getObj,Sem.run,hb]
 cases hei:P.info? E with
 | none=>rw [hei] at hz;cases hz
 | some ei =>
 rw [hei] at hz
 simp only [Option.bind_some] at hz
 unfold CK at ha
 split at ha
 ·rename_i t' x' i' ok' hop
  split at ha
  ·rename_i m' k' h1 h2
   simp only [Option.some.injEq,Prod.mk.injEq] at ha
   obtain⟨rfl,rfl,rfl,rfl⟩:=ha
   have h1':=hf.op h1
   have h2':=hf.op h2
   generalize a.eval=ρ at h1' h2' ⊢
   simp only [execOp,hop,h1',h2',Instr.lookup,Sem.run_bind,run_underlying hl.CA,Result.andThen_ok,hg,Sem.run_pure,run_checkKey hl,run_findKey hl]
   rw [<- yN k x 0]
   cases hp:posOf x k 0 with
   | none =>
    simp only [Option.map_none,zeroValue,typeInfo,run_program,Sem.run_bind,Result.andThen_ok,hei,hz,Sem.run_pure,Option.getD_none,Option.isSome_none]
   | some q =>
    simp only [Option.map_some,Sem.run_pure,Result.andThen_ok,Option.getD_some,Option.isSome_some]
    cases ok' <;> rfl
  ·cases ha
 ·cases ha
end
end Go.Sx
