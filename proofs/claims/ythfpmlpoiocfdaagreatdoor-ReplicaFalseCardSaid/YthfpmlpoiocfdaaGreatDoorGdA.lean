/-
  Several texts in one: RqF, RqK.
-/
import Derived.Test.YthfpmlpoiocfdaaGreatDoorGbD
import Derived.Test.YthfpmlpoiocfdaaGreatDoorEvWx
namespace Go.Proofs.YthfpmlpoiocfdaaGreatDoor
open Go.RowKit Go.Sx Go.Ev
set_option linter.unusedVariables false
set_option linter.unusedSimpArgs false
set_option linter.unnecessarySimpa false
set_option maxRecDepth 100000
noncomputable def Qs (k:Nat):Option (AV×AM):=lC Tryz.prog tabG X0 (exec Tryz.prog tabG aO X0 100000) 7 [.num .i64 k,.num .i64 1] ⟨.nil,0⟩
noncomputable def MN (k:Nat):AM:=match Qs k with
 | some q=>q.2
 | none=>⟨.nil,0⟩
noncomputable abbrev QX (k:Nat):AM:=(MN k).del 7
noncomputable abbrev QY (k:Nat):AM:=(QX k).del 8
noncomputable abbrev QZ (k:Nat):AM:=(QY k).del (5*k+23)
noncomputable abbrev Q0 (k:Nat):AM:=(QZ k).del 1
noncomputable abbrev Q1 (k:Nat):AM:=(Q0 k).del 2
noncomputable abbrev Ph (k:Nat):AM:=(Q1 k).del 14
noncomputable def tA (k:Nat):AM:=(Ph k).del 10
def Qt (k:Nat):List AV:=[.num .i64 k,.num .i64 1,.ptr 14 0,.ptr 2 0,.ptr 19 0,.ptr (5*k+21) 0,.ptr (5*k+23) 0,.ptr 8 0,.ptr 9 0,.flat (.slice none 0 0),.flat (.slice none 0 0),.num .u64 0]
def Qu (k:Nat):List AV:=(.num .i64 k::List.replicate 12 (.flat (.slice none 0 0)))
def c8:List AV:=[.flat (.slice none 0 0),.ptr 6 0,.flat (.slice none 0 0),.mp 7]
def Rm (k:Nat):List AV:=(.num .i64 k::List.replicate 121 (.num .u64 0))
structure Oi (k:Nat):Prop where
 h:(Qs k).map (·.1)=some (.qU [.ptr 10 0,.num .i64 0])
 g7:(MN k).get 7=some (.map [] 0)
 g8:(QX k).get 8=some (.cells c8)
 gg:(QY k).get (5*k+23)=some (.cells (Rm k))
 g1:(QZ k).get 1=some (.map [] 0)
 g2:(Q0 k).get 2=some (.cells [.mp 1])
 Q2:(Q1 k).get 14=some (.cells (Qu k))
 Q3:(Ph k).get 10=some (.cells (Qt k))
 s6:((MN k).get 6).isSome=true
 s9:((MN k).get 9).isSome=true
 Rn:((MN k).get 19).isSome=true
 sc:((MN k).get (5*k+21)).isSome=true
theorem Qv:Oi 3:=⟨zk,zk,zk,zk,zk,zk,zk,zk,zk,zk,zk,zk⟩
theorem Qw:Oi 5:=⟨zk,zk,zk,zk,zk,zk,zk,zk,zk,zk,zk,zk⟩
theorem Qx:Oi 7:=⟨zk,zk,zk,zk,zk,zk,zk,zk,zk,zk,zk,zk⟩
theorem Qy:Oi 9:=⟨zk,zk,zk,zk,zk,zk,zk,zk,zk,zk,zk,zk⟩
theorem Pj:Oi 11:=⟨zk,zk,zk,zk,zk,zk,zk,zk,zk,zk,zk,zk⟩
structure OD where
 ν:Nu
 r:Nat
 p:Nat
 wt:Nat
 wm:Nat
 lp:Nat
 cp:Nat
 gp:Nat
 rn:Nat
 wc:Nat
 sa:Nat
 tm:Nat
 tr:TypeId
 tl:TypeId
 tw:TypeId
 tg:TypeId
 tn:TypeId
def OD.ok (k:Nat) (g:OD):Prop:=(∃ c,g.ν 10=some (g.r,c))/\(∃ c,g.ν 14=some (g.p,c))/\(∃ c,g.ν 2=some (g.wt,c))/\(∃ c,g.ν 19=some (g.lp,c))/\(∃ c,g.ν (5*k+21)=some (g.cp,c))/\(∃ c,g.ν (5*k+23)=some (g.gp,c))/\(∃ c,g.ν 8=some (g.rn,c))/\(∃ c,g.ν 9=some (g.wc,c))/\(∃ c,g.ν 6=some (g.sa,c))/\∃ c,g.ν 7=some (g.tm,c)
noncomputable def FR (k:Nat) (g:OD):bA:=Bd (g.ok k) [Mem g.ν (tA k),aB g.r #[.int .i64 (k:Nat),.int .i64 1,zP g.p 0,zP g.wt 0,zP g.lp 0,zP g.cp 0,zP g.gp 0,zP g.rn 0,zP g.wc 0,.slice none 0 0,.slice none 0 0,.int .u64 0] g.tr,aB g.p #[.int .i64 (k:Nat),.slice none 0 0,.slice none 0 0,.slice none 0 0,.slice none 0 0,.slice none 0 0,.slice none 0 0,.slice none 0 0,.slice none 0 0,.slice none 0 0,.slice none 0 0,.slice none 0 0,.slice none 0 0] g.tl,aB g.wt #[.map (some g.wm)] g.tw,bR gZ gZ g.wm ([]),aB g.gp (nR (k:Nat)) g.tg,aB g.rn #[.slice none 0 0,zP g.sa 0,.slice none 0 0,.map (some g.tm)] g.tn,bR gY iH g.tm ([])]
theorem kH {ν:Nu}{m:AM}{w:World}(hm:Rt ν m w){id:Nat}(h:(m.get id).isSome=true):∃ b c,ν id=some (b,c):=by
 cases hg:m.get id with
 | none=>rw [hg] at h;cases h
 | some cN =>
  obtain⟨p,o,h1,-⟩:=hm.at_ id cN hg
  exact⟨p.1,p.2,h1⟩
theorem Oj {α:Type}{x:Option α}{a:α}(h:x=some a):x.isSome=true:=by rw [h];rfl
theorem fN {ν:Nu}{id b c:Nat}(h:ν id=some (b,c)):AV.val ν (.ptr id 0)=some (zP b 0):=by simp only [AV.val,h]
theorem Gw {ν:Nu}{id b c:Nat}(h:ν id=some (b,c)):AV.val ν (.mp id)=some (.map (some b)):=by simp only [AV.val,h]
theorem Pk {k:Nat}(F:Oi k){w w0:World}{L:List bA}(hG:nO tabG w0 L) (hs:St w0 L w):Calls Tryz.prog 7 #[.int .i64 (k:Nat),.int .i64 1] w (eD λrv w'=>∃ g:OD,rv=.tuple #[zP g.r 0,.int .i64 0]/\St w0 (FR k g::L) w'):=by
 have hF:=F.h
 cases hc:Qs k with
 | none=>rw [hc] at hF;cases hF
 | some q =>
  obtain⟨r',m'⟩:=q
  have hM:MN k=m':=by unfold MN;rw [hc]
  rw [hc] at hF
  simp only [Option.map_some,Option.some.injEq] at hF
  subst hF
  refine Calls.ret (mc HJ fS mix 100000 zk hc hG (vs:=[.int .i64 (k:Nat),.int .i64 1]) rfl (Ev.St.start hs)) ?_
  rintro v w' ⟨ν,-,k2,hs1⟩
  rw [<- hM] at hs1
  have hm:=dD hs1
  have up:∀ {m2:AM}{id:Nat},((MN k).get id).isSome=true->∃ b c,ν id=some (b,c):=λh=>kH hm h
  obtain⟨tm,c7,e7⟩:=kH hm (Oj F.g7)
  obtain⟨sa,c6,e6⟩:=kH hm F.s6
  obtain⟨wc,c9,e9⟩:=kH hm F.s9
  obtain⟨lp,c19,e19⟩:=kH hm F.Rn
  obtain⟨cp,cc,ec⟩:=kH hm F.sc
  have hs2:=St.LL hs1 F.g7 (l:=[]) rfl e7
  obtain⟨rn,c8_,e8⟩:=kH (dD hs2) (Oj F.g8)
  obtain⟨tn,hs3⟩:=St.xF hs2 F.g8 (aM rfl (aM (fN e6) (aM rfl (aM (Gw e7) rfl)))) e8
  obtain⟨gp,cg,eg⟩:=kH (dD hs3) (Oj F.gg)
  obtain⟨tg,hs4⟩:=St.xF hs3 F.gg (us:=(nR (k:Nat)).toList) zk eg
  obtain⟨wm,c1,e1⟩:=kH (dD hs4) (Oj F.g1)
  have hs5:=St.LL hs4 F.g1 (l:=[]) rfl e1
  obtain⟨wt,c2,e2⟩:=kH (dD hs5) (Oj F.g2)
  obtain⟨tw,hs6⟩:=St.xF hs5 F.g2 (aM (Gw e1) rfl) e2
  obtain⟨p,c14_,e14⟩:=kH (dD hs6) (Oj F.Q2)
  obtain⟨tl,hs7⟩:=St.xF hs6 F.Q2 (us:=[.int .i64 (k:Nat),.slice none 0 0,.slice none 0 0,.slice none 0 0,.slice none 0 0,.slice none 0 0,.slice none 0 0,.slice none 0 0,.slice none 0 0,.slice none 0 0,.slice none 0 0,.slice none 0 0,.slice none 0 0]) zk e14
  obtain⟨r,c10_,e10⟩:=kH (dD hs7) (Oj F.Q3)
  obtain⟨tr,hs8⟩:=St.xF hs7 F.Q3 (aM rfl (aM rfl (aM (fN e14) (aM (fN e2) (aM (fN e19) (aM (fN ec) (aM (fN eg) (aM (fN e8) (aM (fN e9) (aM rfl (aM rfl (aM rfl rfl)))))))))))) e10
  refine⟨⟨ν,r,p,wt,wm,lp,cp,gp,rn,wc,sa,tm,tr,tl,tw,tg,tn⟩,?_,?_⟩
  ·have e:AV.val ν (.qU [.ptr 10 0,.num .i64 0])=some (.tuple #[zP r 0,.int .i64 0]):=by simp only [AV.val,bF,e10];rfl
   rw [e] at k2
   exact(Option.some.inj k2).symm
  ·refine Bd.close ⟨⟨_,e10⟩,⟨_,e14⟩,⟨_,e2⟩,⟨_,e19⟩,⟨_,ec⟩,⟨_,eg⟩,⟨_,e8⟩,⟨_,e9⟩,⟨_,e6⟩,⟨_,e7⟩⟩ ?_
   have h9:=St.HM gZ gZ (hs8.pull 4 rfl)
   have h10:=St.HM gY iH (h9.pull 7 rfl)
   exact((((((h10.pull 7 rfl).pull 7 rfl).pull 3 rfl).pull 7 rfl).pull 7 rfl).pull 7 rfl).pull 7 rfl
noncomputable def Q9 (k:Nat):AM:=(((tA k).set 8 (.cells c8)).set 14 (.cells (Qu k))).set 10 (.cells (Qt k))
noncomputable def Oq:eY:=λg=>bif Nat.beq g 5 then some (λavs m=>match avs with | []=>some (.bool true,m)|_=>none) else X0 g
noncomputable def QJ (X:eY) (n:Nat) (f:FuncId) (N:Nat) (c:Code) (l:List (Nat×AV)) (m:AM) (t:Nat):Option AV:=match exec Tryz.prog tabG aO X n f N c (ML l) m with
 | some (.ret,S',_)=>S'.get t
 | _=>none
def spine:Nat->Code->Code
 | n+1,.seq _ b=>spine n b
 | _,c=>c
noncomputable def PE:Code:=spine 9 (match Tryz.f3.body with|some b=>b|none=>.skip)
abbrev pj (k:Nat):Prop:=QJ Oq 100000 3 139 PE [(14,.ptr 10 0)] (Q9 k) 12=some (.bool true)
theorem PF:pj 3:=by unfold pj;kernel_rfl
theorem PG:pj 5:=by unfold pj;kernel_rfl
theorem PH:pj 7:=by unfold pj;kernel_rfl
theorem PI:pj 9:=by unfold pj;kernel_rfl
theorem Ot:pj 11:=by unfold pj;kernel_rfl
theorem MX {k:Nat}(h:3<=k/\k<=11) (h2:k % 2=1):pj k:=by
 have h5:k=3\/k=5\/k=7\/k=9\/k=11:=za
 rcases h5 with rfl|rfl|rfl|rfl|rfl
 ·exact PF
 ·exact PG
 ·exact PH
 ·exact PI
 ·exact Ot
end Go.Proofs.YthfpmlpoiocfdaaGreatDoor
