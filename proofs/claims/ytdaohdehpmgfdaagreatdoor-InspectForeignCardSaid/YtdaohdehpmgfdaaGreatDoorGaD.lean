/-
  Several texts in one: IfM, IfN, IfO, IfP, IfQ, IfR, IfT, IfU, IfV, IfW, IfX, IfY, IfZ, IgA, IgB, IgC.
-/
import Derived.Test.YtdaohdehpmgfdaaGreatDoorSxT
import Derived.Test.YtdaohdehpmgfdaaGreatDoorGaC
namespace Go.Proofs.YtdaohdehpmgfdaaGreatDoor
open Go.RowKit Go.Sx
set_option linter.unusedVariables false
set_option linter.unusedSimpArgs false
set_option linter.unnecessarySimpa false
set_option maxRecDepth 100000
theorem vO {w0 w:World}{L:List aI}{ub:Nat}{cb:Nat}{d:Nat}{ao:Option Addr}{co:Nat}{ao1:Option Addr}{co1:Nat}{ad:Option Addr}{cy:Nat}{D:Nat->aC}{nk:Nat}{g:et}(at_:Nat) (wq:Nat) (c:Int) (i:Int) (n:Nat) (b:List Int) (bo:List Int) (hat:at_+20<=32768) (hi:1<=i) (him:i<=11) (hn2:n<65536) (hci:bz D at_ wq c (dy n bo)) (hcc:c+1<8000000000000000000) (hbl:b.length<=1024) (hbb:∀ z∈b,0<=z/\z<256) (hsm:se ad cy) (hbc:b.length<=cy) (hk:nk<800) (hTab:∀ w,St w0 L w->cQ w) (hr:∀ w,St w0 L w->ag w ad b.length 1 (λk=>af (b.getD k 0))) (hs:St w0 (ah ub #[zP cb 0,.int .i64 i,.int .u64 (n:Nat),.slice ao1 bo.length co1] 126::ah cb #[zP d 0,.int .i64 (at_:Nat),.slice ao ((dy n bo).length) co,.int .i64 (wq:Nat),.bool false] 197::DK d D nk g::L) w):Calls Tryz.prog 73 #[zP ub 0,.slice ad b.length cy] w (aZ λrv w'=>∃ (ax:Option Addr) (cx2:Nat) (ab2:Option Addr) (bc2:Nat) (dq2:Nat->aC) (gd2:et),rv=.tuple #[.int .u64 ((n:Nat)+1),.agg (aO.cells (eM i ((n:Nat)+1) b)),.int .i64 0]/\bz dq2 at_ (1-wq) (c+1) (dy (n+1) b)/\(∀ a,(a<at_\/at_+20<=a)->dq2 a=D a)/\St w0 (ah ub #[zP cb 0,.int .i64 i,.int .u64 ((n:Nat)+1),.slice ab2 b.length bc2] 126::ah cb #[zP d 0,.int .i64 (at_:Nat),.slice ax ((dy (n+1) b).length) cx2,.int .i64 ((1-wq):Nat),.bool false] 197::Sl ab2 bc2 5 1 af b::DK d dq2 0 gd2::L) w'):=by
 refine bp Tryz.func73 Tryz.ntmps73 ?_
 refine En (Ls (Lg [1] (Lu (Dz ?_))))
 refine ar.alloc rfl rfl zk (z:=.agg (aO.cells aH)) zk hs (cs:=aO.cells aH) zk ?_
 intro b1 w2 hs3
 refine Lo (aL (Lt (Ls (Lb (Ls (La (Lt (LF (Ls (La (Lt (Dz ?_))))))))))))
 refine Zi (((b.length:Nat):Int)>1024) (λh4'=>?_) (λh4'=>?_)
 ·exfalso;omega
 ·refine Zs (?_)
  refine bj (Hl 3 1 2 hs3 Hz) ?_
  refine Zt (?_)
  refine Zi (((n:Nat):Int) >= 65536) (λh5'=>?_) (λh5'=>?_)
  ·exfalso;omega
  ·refine Zk (Zm (Zt (Zs (Zs (?_)))))
   refine aE.aV [0,1,3,7,0,16,48,112,240,496,0,2032,4095,8191] (.rd 0 (.rd 1 (.rd 2 (.rd 3 (.rd 4 (.rd 5 (.rd 6 (.rd 7 (.rd 8 (.rd 10 (.ef 9 (.ef 11 (.ef 12 (.rd 13 .done)))))))))))))) zk zk ai zk hs3 ?_
   intro w6 hs7 hw8
   refine Zj (Hl 3 1 0 hs7 (Hl 7 1 2 hs7 (qU 8 ((n:Nat)+1) Hz))) ?_
   have hs9:=St.bW hs7 5 1 af
   refine aF (f:=99) (args:=#[.slice none 0 0,.int .u64 ((n:Nat)+1)]) Tryz.call99 (bX ([]:List Int) ((n:Nat)+1) ze za hs9) ?_
   rintro v13 w14 ⟨ao10,co11,rfl,hs12⟩
   refine⟨bw (n:=[.cell ⟨ub,0,none⟩ (zP cb 0)]) zk (aG (hs12.cell 2 rfl zk) av),?_⟩
   refine ar.append rfl zk aJ aj (ad:=ao10) (c:=co11) (xs:=([]:List Int)++wd ((n:Nat)+1)) (ys:=b) (adx:=ad) (cx:=cy) (0:Int) zk hs12 (hr _ (hs12.drop 5)) hsm.nn zu zu ?_
   intro ad17 c18 w15 hs16
   refine⟨bw (n:=[.cell ⟨ub,0,none⟩ (zP cb 0)]) zk (aG (hs16.cell 2 rfl zk) av),?_⟩
   have hs19:=(hs16.pl 4).pl 4
   refine aF Tryz.call98 (oK at_ wq (dy n bo) c ((([]:List Int)++wd ((n:Nat)+1))++b) zc zD zc zb (fE.app (fE.app fE.nil (eC _)) hbb) (dQ hs19 2 rfl) zc (λw h=>h.rows 0 rfl aj.size _) hs19) ?_
   rintro v27 w28 ⟨ax20,cx21,dq22,gd23,rfl,hci224,hout25,hs26⟩
   refine Lo (aL (Lt (Ls (La (Lt (LF (Lk (Lt (Ls (Dz ?_))))))))))
   refine bL [7] (Hl 3 5 2 hs26 (qU 4 ((n:Nat)+1) Hz)) ?_
   refine Zv (b:=ub) (off:=2) (v:=.int .u64 ((n:Nat)+1)) (ti:=Tryz.t31) zk hs26 5 (cs':=#[zP cb 0,.int .i64 i,.int .u64 ((n:Nat)+1),.slice ao1 bo.length co1]) ?_
   intro w29 hs30
   refine Lo (Ld (Lt (Ls (Lg [2,5] (Lu (Dz ?_))))))
   refine aF (f:=94) (args:=#[.slice ad b.length cy]) Tryz.call94 (fv b zb hsm (λw h=>hr _ (h.drop 6)) hs30) ?_
   rintro v34 w35 ⟨ao31,co32,rfl,hs33⟩
   refine Lo (Lu (Dz ?_))
   refine Zv (b:=ub) (off:=3) (v:=.slice ao31 b.length co32) (ti:=Tryz.t85) zk hs33 6 (cs':=#[zP cb 0,.int .i64 i,.int .u64 ((n:Nat)+1),.slice ao31 b.length co32]) ?_
   intro w36 hs37
   refine Lo (Ld (Lt (Ls (Dz ?_))))
   refine aE.aV [0,1,3,7,0,16,48,112,0,256,768,1792,0,8176,16383,32767,65535] (.rd 0 (.rd 1 (.rd 2 (.rd 3 (.rd 4 (.rd 5 (.rd 6 (.rd 7 (.rd 8 (.rd 9 (.rd 10 (.rd 11 (.rd 12 (.ef 13 (.rd 14 (.ef 15 (.rd 16 .done))))))))))))))))) zk zk ai zk hs37 ?_
   intro w38 hs39 hw40
   refine Zj (Hl 3 6 2 hs39 (Hl 7 6 1 hs39 (Hl 11 6 2 hs39 Hz))) ?_
   refine aF (f:=105) (args:=#[.int .i64 i,.int .u64 ((n:Nat)+1),.slice ad b.length cy]) Tryz.call105 (gS i ((n:Nat)+1) b zD zD za zb hsm.nn hbc (λw h=>hTab w (h.drop 7)) (λw h=>hr _ (h.drop 7)) hs39) ?_
   rintro v42 w43 ⟨rfl,hs41⟩
   refine⟨bw (n:=[.cell ⟨ub,2,none⟩ (.int .u64 ((n:Nat)+1))]) zk (aG (hs41.cell 6 rfl zk) av),?_⟩
   refine En (Lu (Dz ?_))
   refine Zv (b:=b1) (off:=0) (v:=.agg (aO.cells (eM i ((n:Nat)+1) b))) (ti:=Tryz.t34) zk hs41 5 (cs':=aO.cells (eM i ((n:Nat)+1) b)) ?_
   intro w44 hs45
   refine Lo (aL (Lt (Le (Dz ?_))))
   refine aw.done (.inl rfl) (v:=.tuple #[.int .u64 ((n:Nat)+1),.agg (aO.cells (eM i ((n:Nat)+1) b)),.int .i64 0]) (λa hf=>gG rfl (RV.tmp zk) (RV.agg zk (ti:=Tryz.t34) zk zk (vs:=aO.cells (eM i ((n:Nat)+1) b)) zk (hs45.cells 5 0 rfl zk)) (RV.tmp zk) a hf) ?_
   have hs46:=((((((hs45.pl 3).pl 1).pl 2).pl 6).pl 6).pl 6).pl 6
   have hs47:=hs46.dr 3
   have hs48:St w0 (ah ub #[zP cb 0,.int .i64 i,.int .u64 ((n:Nat)+1),.slice ao31 b.length co32] 126::ah cb #[zP d 0,.int .i64 (at_:Nat),.slice ax20 ((dy (n+1) b).length) cx21,.int .i64 ((1-wq):Nat),.bool false] 197::Sl ao31 co32 5 1 af b::DK d dq22 0 gd23::L) w44:=hs47
   exact⟨ax20,cx21,ao31,co32,dq22,gd23,rfl,hci224,hout25,hs48⟩
def eO (i:Int) (n:Nat) (b:List Int):aO:=if n=0 then aH else eM i (n:Nat) b
theorem tA {w0 w:World}{L:List aI}{ub:Nat}{cb:Nat}{ab:Option Addr}{bc:Nat}(i:Int) (n:Nat) (b:List Int) (hi:1<=i) (him:i<=11) (hn1:1<=n) (hn2:n<=65536) (hbl:b.length<=1024) (hTab:∀ w,St w0 L w->cQ w) (hs:St w0 (ah ub #[zP cb 0,.int .i64 i,.int .u64 (n:Nat),.slice ab b.length bc] 126::Sl ab bc 5 1 af b::L) w):Calls Tryz.prog 65 #[zP ub 0] w (aZ λrv w'=>∃ (ax:Option Addr) (cx:Nat),rv=.tuple #[.int .u64 (n:Nat),.slice ax b.length cx,.agg (aO.cells (eM i (n:Nat) b))]/\St w0 (ah ub #[zP cb 0,.int .i64 i,.int .u64 (n:Nat),.slice ab b.length bc] 126::Sl ab bc 5 1 af b::Sl ax cx 5 1 af b::L) w'):=by
 refine bp Tryz.func65 Tryz.ntmps65 ?_
 refine En (Ls (Lg [2] (Lu (Dz ?_))))
 refine ar.alloc rfl rfl zk (z:=.agg (aO.cells aH)) zk hs (cs:=aO.cells aH) zk ?_
 intro b1 w2 hs3
 refine Lo (Ld (Lt (Ls (Ls (Dz ?_)))))
 refine bj (Hl 6 1 2 hs3 Hz) ?_
 refine Zt (?_)
 refine cS (t:=((n:Nat):Int) == 0) (λh4=>?_) (λh4=>?_)
 ·have h4':((n:Nat):Int)=0:=dt h4
  exfalso;omega
 ·have h4':¬ (((n:Nat):Int)=0):=dH h4
  refine Zk (Zt (Zs (?_)))
  refine aE.aV [0,1,3,7,0,16,48,112,240,0,512,1536,3584,0,8192,24576,57344,0,131072,393216,917504,2097136,4194303,8388607,16777215] (.rd 0 (.rd 1 (.rd 2 (.rd 3 (.rd 4 (.rd 5 (.rd 6 (.rd 7 (.rd 9 (.rd 10 (.rd 11 (.rd 12 (.rd 13 (.rd 14 (.rd 15 (.rd 16 (.rd 17 (.rd 18 (.rd 19 (.rd 20 (.ef 8 (.ef 21 (.rd 22 (.rd 23 (.ef 24 .done))))))))))))))))))))))))) zk zk ai zk hs3 ?_
  intro w5 hs6 hw7
  refine Zj (Hl 3 1 2 hs6 (Hl 7 1 3 hs6 (Hl 12 1 1 hs6 (Hl 16 1 2 hs6 (Hl 20 1 3 hs6 Hz))))) ?_
  refine aF (f:=94) (args:=#[.slice ab b.length bc]) Tryz.call94 (fv b zb (dQ hs6 2 rfl) (λw h=>h.rows 2 rfl aj.size _) hs6) ?_
  rintro v11 w12 ⟨ao8,co9,rfl,hs10⟩
  refine⟨bw (n:=[.cell ⟨ub,3,none⟩ (.slice ab b.length bc),.cell ⟨ub,2,none⟩ (.int .u64 (n:Nat)),.cell ⟨ub,1,none⟩ (.int .i64 i),.cell ⟨ub,2,none⟩ (.int .u64 (n:Nat))]) zk (aG (hs10.cell 2 rfl zk) (aG (hs10.cell 2 rfl zk) (aG (hs10.cell 2 rfl zk) (aG (hs10.cell 2 rfl zk) av)))),?_⟩
  refine aF (f:=105) (args:=#[.int .i64 i,.int .u64 (n:Nat),.slice ab b.length bc]) Tryz.call105 (gS i (n:Nat) b zD zD za zb (dQ hs10 3 rfl).nn (Sl.cap (hs10.at_ 3 rfl)) (λw h=>hTab w (h.drop 4)) (λw h=>h.rows 3 rfl aj.size _) hs10) ?_
  rintro v14 w15 ⟨rfl,hs13⟩
  refine⟨bw (n:=[.cell ⟨ub,2,none⟩ (.int .u64 (n:Nat))]) zk (aG (hs13.cell 2 rfl zk) av),?_⟩
  refine En (Lu (Dz ?_))
  refine Zv (b:=b1) (off:=0) (v:=.agg (aO.cells (eM i (n:Nat) b))) (ti:=Tryz.t34) zk hs13 1 (cs':=aO.cells (eM i (n:Nat) b)) ?_
  intro w16 hs17
  refine Lo (Ld (Lt (Le (Dz ?_))))
  refine aw.done (.inl rfl) (v:=.tuple #[.int .u64 (n:Nat),.slice ao8 b.length co9,.agg (aO.cells (eM i (n:Nat) b))]) (λa hf=>gG rfl (RV.tmp zk) (RV.tmp zk) (RV.agg zk (ti:=Tryz.t34) zk zk (vs:=aO.cells (eM i (n:Nat) b)) zk (hs17.cells 1 0 rfl zk)) a hf) ?_
  have hs18:=(((hs17.pl 0).pl 3).pl 3).pl 3
  have hs19:=hs18.dr 1
  exact⟨ao8,co9,rfl,hs19⟩
theorem tB {w0 w:World}{L:List aI}{ub:Nat}{cb:Nat}{ab:Option Addr}{bc:Nat}(i:Int) (b:List Int) (hs:St w0 (ah ub #[zP cb 0,.int .i64 i,.int .u64 0,.slice ab b.length bc] 126::L) w):Calls Tryz.prog 65 #[zP ub 0] w (aZ λrv w'=>rv=.tuple #[.int .u64 0,.slice none 0 0,.agg (aO.cells aH)]/\St w0 (ah ub #[zP cb 0,.int .i64 i,.int .u64 0,.slice ab b.length bc] 126::L) w'):=by
 refine bp Tryz.func65 Tryz.ntmps65 ?_
 refine En (Ls (Lg [2] (Lu (Dz ?_))))
 refine ar.alloc rfl rfl zk (z:=.agg (aO.cells aH)) zk hs (cs:=aO.cells aH) zk ?_
 intro b1 w2 hs3
 refine Lo (Ld (Lt (Ls (Ls (Dz ?_)))))
 refine bj (Hl 6 1 2 hs3 Hz) ?_
 refine En (Lt (LT (Ls (Dz ?_))))
 refine aE.aV [0,0,2,7] (.rd 0 (.rd 1 (.rd 2 (.ef 3 .done)))) zk zk ai zk hs3 ?_
 intro w4 hs5 hw6
 refine Zj (du 0 0 0 32 (aO.cells aH) hs5 Hz) ?_
 refine Zv (b:=b1) (off:=0) (v:=.agg (aO.cells aH)) (ti:=Tryz.t34) zk hs5 0 (cs':=aO.cells aH) ?_
 intro w7 hs8
 refine Lo (Ld (Lt (Le (Ly (Dz ?_)))))
 refine aw.done (.inl rfl) (v:=.tuple #[.int .u64 0,.slice none 0 0,.agg (aO.cells aH)]) (λa hf=>gG rfl (RV.tmp zk) (RV.tmp zk) (RV.agg zk (ti:=Tryz.t34) zk zk (vs:=aO.cells aH) zk (hs8.cells 0 0 rfl zk)) a hf) ?_
 have hs9:=hs8.dr 1
 exact⟨rfl,hs9⟩
theorem iN {w0 w:World}{L:List aI}{ub:Nat}{cb:Nat}{ab:Option Addr}{bc:Nat}(i:Int) (n:Nat) (b:List Int) (hi:1<=i) (him:i<=11) (hn0:n=0->b=[]) (hn2:n<=65536) (hbl:b.length<=1024) (hTab:∀ w,St w0 L w->cQ w) (hs:St w0 (ah ub #[zP cb 0,.int .i64 i,.int .u64 (n:Nat),.slice ab b.length bc] 126::Sl ab bc 5 1 af b::L) w):Calls Tryz.prog 65 #[zP ub 0] w (aZ λrv w'=>∃ (ax:Option Addr) (cx:Nat),rv=.tuple #[.int .u64 (n:Nat),.slice ax b.length cx,.agg (aO.cells (eO i n b))]/\St w0 (ah ub #[zP cb 0,.int .i64 i,.int .u64 (n:Nat),.slice ab b.length bc] 126::Sl ab bc 5 1 af b::Sl ax cx 5 1 af b::L) w'):=by
 rcases Nat.eq_zero_or_pos n with rfl|h0
 ·obtain rfl:=hn0 rfl
  refine Calls.ret (tB i [] hs) ?_
  rintro v w2 ⟨rfl,h⟩
  exact⟨none,0,rfl,(St.bW h 5 1 af).perm (List.perm_append_comm (l₁:=[_]) (l₂:=[_,_])|>.append_right _)⟩
 ·rw [eO,if_neg za]
  exact tA i n b hi him h0 hn2 hbl hTab hs
structure bY where
 lf:Int
 nm:Int
 pg:Int
 pp:Int
deriving DecidableEq
def bY.cells (x:bY):Array Value:=#[.int .u64 x.lf,.int .u64 x.nm,.int .u16 x.pg,.int .u16 x.pp]
abbrev tC:bY:=⟨0,0,0,0⟩
theorem EB (a b:bY):dv Tryz.prog 2 208 (.agg a.cells) (.agg b.cells)=decide (a=b):=by
 have h:dv Tryz.prog 2 208 (.agg a.cells) (.agg b.cells)=(a.lf == b.lf && (a.nm == b.nm && (a.pg == b.pg && (a.pp == b.pp && true)))):=zk
 rw [h,ib,ib,ib,ib,Bool.and_true]
 obtain⟨a0,a1,a2,a3⟩:=a
 obtain⟨b0,b1,b2,b3⟩:=b
 simp only [bY.mk.injEq,Bool.decide_and]
def bE (n:Nat):Nat:=(n+109) / 108
def cV (r:List Int):List Int:=((([]:List Int)++hf (r.length:Nat))++r)++List.replicate (bE r.length*108-((([]:List Int)++hf (r.length:Nat))++r).length) (0:Int)
theorem eP (r:List Int):(cV r).length=bE r.length*108:=by
 simp only [cV,List.length_append,List.length_replicate,aY,List.length_nil,bE]
 omega
def kj (lf nm:Int) (k n:Nat) (ch:List Int):List Int:=((((([]:List Int)++wd lf)++wd nm)++hf (k:Nat))++hf (n:Nat))++ch
theorem lC {lf nm:Int}{k n:Nat}{ch:List Int}(h:ch.length=108):(kj lf nm k n ch).length=128:=by
 simp only [kj,List.length_append,List.length_nil,aP,aY,h]
def chunk (r:List Int) (k:Nat):List Int:=((cV r).drop (k*108)).take ((k+1)*108-k*108)
theorem cd {r:List Int}{k:Nat}(h:k<bE r.length):(chunk r k).length=108:=by
 simp only [chunk,List.length_take,List.length_drop,eP]
 omega
def mg (D:Nat->aC) (a:Nat) (nm:Int) (r:List Int) (i:Nat):Nat->aC:=λx=>if a<=x/\x<a+i then fD (kj 1 nm (x-a) (bE r.length) (chunk r (x-a))) else D x
theorem DQ (D:Nat->aC) (a:Nat) (nm:Int) (r:List Int):mg D a nm r 0=D:=by
 funext x
 exact if_neg za
theorem DR (D:Nat->aC) (a:Nat) (nm:Int) (r:List Int) (i:Nat):Bn (mg D a nm r i) (a+i) (fD (kj 1 nm i (bE r.length) (chunk r i)))=mg D a nm r (i+1):=by
 funext x
 unfold Bn mg
 by_cases h:a+i=x
 ·subst h
  rw [if_pos rfl,if_pos za,Nat.add_sub_cancel_left]
 ·rw [if_neg h]
  by_cases h2:a<=x/\x<a+i
  ·rw [if_pos h2,if_pos za]
  ·rw [if_neg h2,if_neg za]
def lD (D:Nat->aC) (a:Nat) (nm:Int) (r:List Int):Prop:=∀ k,k<bE r.length->D (a+k)=fD (kj 1 nm k (bE r.length) (chunk r k))
theorem lD.put {D:Nat->aC}{a:Nat}{nm:Int}{r:List Int}:lD (mg D a nm r (bE r.length)) a nm r:=λk hk=>by
 unfold mg
 rw [if_pos za,Nat.add_sub_cancel_left]
theorem A0 {D:Nat->aC}{a i x:Nat}{nm:Int}{r:List Int}(h:x<a\/a+i<=x):mg D a nm r i x=D x:=if_neg za
theorem oL {w0 w:World}{L:List aI}(n:Nat) (hn:n<=1000000) (hs:St w0 L w):Calls Tryz.prog 109 #[.int .i64 (n:Nat)] w (aZ λrv w'=>rv=.int .i64 (bE n:Nat)/\St w0 L w'):=by
 refine bp Tryz.func109 Tryz.ntmps109 ?_
 refine En (Ls (La (Lt (Ls (Dz ?_)))))
 refine bj (cH 1 ((n:Nat)+2) (Hg 2 (.cI (.int .i64 ((n:Nat)+110)) (.gen [])) [.prop (Value.int .i64 (IntKind.i64.wrap (((n:Nat)+2)+108))=Value.int .i64 ((n:Nat)+110))] (aB (de za za za) av) (Hg 3 (.cI (.int .i64 ((n:Nat)+109)) (.gen [])) [.prop (Value.int .i64 (IntKind.i64.wrap (((n:Nat)+110)-1))=Value.int .i64 ((n:Nat)+109))] (aB (de za za za) av) (Hg 4 (.div (((n:Nat)+109) / 108)) [.prop (IntKind.i64=IntKind.i64/\(108:Int)≠0/\IntKind.i64.wrap (Int.tdiv ((n:Nat)+109) 108)=((n:Nat)+109) / 108)] (aB ⟨rfl,zf,by rw [Int.tdiv_eq_ediv_of_nonneg za];exact uy za za⟩ av) Hz)))) ?_
 refine Zt (Ze (?_))
 refine bg (v:=.int .i64 (((n:Nat)+109) / 108)) ?_
 exact⟨congrArg (Value.int .i64) (by unfold bE;omega),hs⟩
theorem zC {p:Prop}(h:p:=by first|omega|(simp only [List.length_append,List.length_nil,List.length_cons,List.length_take,List.length_drop,List.length_replicate,aY,aP,eP];omega)):p:=h
theorem zy {p:Prop}(h:p:=by simp only [List.length_append,List.length_nil,List.length_cons,List.length_take,List.length_drop,aY,aP,eP];omega):p:=h
theorem vP {w0 w:World}{L:List aI}{b2:Nat}{b5:Nat}{b6:Nat}{bk:Nat}{d:Nat}{ao:Option Addr}{co:Nat}(a:Nat) (to:Nat) (m:Nat) (r:List Int) (k:Nat) (hrl:r.length<=4096) (hk:k<bE r.length) (hm:m<=60000) (hs:St w0 (ah b2 #[zP bk 0] 64::ah b5 #[.int .i64 (bE r.length:Nat)] 3::ah b6 #[.slice ao ((cV r).length) co] 85::ah bk #[zP d 0,.int .i64 (a:Nat),.int .i64 (to:Nat),.int .u64 1,.int .i64 (m:Nat),.bool false] 138::Sl ao co 5 1 af (cV r)::L) w):Calls Tryz.prog 111 #[.int .i64 (k:Nat),zP b2 0,zP b5 0,zP b6 0] w (aZ λrv w'=>rv=.agg (aC.cells (fD (kj 1 ((m:Nat)+1) k (bE r.length) (chunk r k))))/\St w0 (ah b2 #[zP bk 0] 64::ah b5 #[.int .i64 (bE r.length:Nat)] 3::ah b6 #[.slice ao ((cV r).length) co] 85::ah bk #[zP d 0,.int .i64 (a:Nat),.int .i64 (to:Nat),.int .u64 1,.int .i64 (m:Nat),.bool false] 138::Sl ao co 5 1 af (cV r)::L) w'):=by
 refine bp Tryz.func111 Tryz.ntmps111 ?_
 refine Zs (?_)
 have hpg:bE r.length<=38:=by unfold bE;omega
 have hal:(cV r).length=bE r.length*108:=eP r
 refine Zg [0] ?_
 refine ar.alloc rfl rfl zk (z:=.agg (aC.cells fX)) zk hs (cs:=aC.cells fX) zk ?_
 intro b1 w2 hs3
 refine Lo (Ld (Lt (Ls (Dz ?_))))
 refine aE.aV [0,1,3,7,15,0,32,96,224,480,992,2047,4095] (.rd 0 (.rd 1 (.rd 2 (.rd 3 (.rd 5 (.rd 6 (.rd 7 (.rd 8 (.rd 9 (.rd 10 (.ef 4 (.ef 11 (.rd 12 .done))))))))))))) zk zk ai zk hs3 ?_
 intro w4 hs5 hw6
 refine Zj (Hl 0 1 0 hs5 (Hl 3 4 3 hs5 (Hl 5 1 0 hs5 (Hl 8 4 4 hs5 (cH 9 ((m:Nat)+1) (qU 10 ((m:Nat)+1) Hz)))))) ?_
 have hs7:=St.bW hs5 5 1 af
 refine aF (f:=99) (args:=#[.slice none 0 0,.int .u64 1]) Tryz.call99 (bX ([]:List Int) 1 ze za hs7) ?_
 rintro v11 w12 ⟨ao8,co9,rfl,hs10⟩
 refine⟨bw (n:=[.prop (Value.int .u64 (IntKind.u64.wrap ((m:Nat)+1))=Value.int .u64 ((m:Nat)+1)),.prop (Value.int .i64 (IntKind.i64.wrap ((m:Nat)+1))=Value.int .i64 ((m:Nat)+1)),.cell ⟨bk,4,none⟩ (.int .i64 (m:Nat)),.cell ⟨b2,0,none⟩ (zP bk 0)]) zk (aB (nB za za) (aB (dD za za) (aG (hs10.cell 5 rfl zk) (aG (hs10.cell 2 rfl zk) av)))),?_⟩
 refine aF (f:=99) (args:=#[.slice ao8 ((([]:List Int)++wd 1).length) co9,.int .u64 ((m:Nat)+1)]) Tryz.call99 (bX (([]:List Int)++wd 1) ((m:Nat)+1) ze za hs10) ?_
 rintro v16 w17 ⟨ao13,co14,rfl,hs15⟩
 refine Lo (aL (Lt (Ls (Dz ?_))))
 refine aE.aV [0,0,2,7,0,16,63,127] (.rd 0 (.rd 1 (.rd 2 (.rd 4 (.rd 5 (.ef 3 (.ef 6 (.rd 7 .done)))))))) zk zk ai zk hs15 ?_
 intro w18 hs19 hw20
 refine Zj (Hg 2 (.cI (.int .u16 (k:Nat)) (.gen [])) [.prop (Value.int .u16 (IntKind.u16.wrap (k:Nat))=Value.int .u16 (k:Nat))] (aB (mq za za) av) (Hl 4 3 0 hs19 (Hg 5 (.cI (.int .u16 (bE r.length:Nat)) (.gen [])) [.prop (Value.int .u16 (IntKind.u16.wrap (bE r.length:Nat))=Value.int .u16 (bE r.length:Nat))] (aB (mq za za) av) Hz))) ?_
 refine aF (f:=110) (args:=#[.slice ao13 ((([]:List Int)++wd 1++wd ((m:Nat)+1)).length) co14,.int .u16 (k:Nat)]) Tryz.call110 (iu (([]:List Int)++wd 1++wd ((m:Nat)+1)) (k:Nat) zC za hs19) ?_
 rintro v24 w25 ⟨ao21,co22,rfl,hs23⟩
 refine⟨bw (n:=[.prop (Value.int .u16 (IntKind.u16.wrap (bE r.length:Nat))=Value.int .u16 (bE r.length:Nat)),.cell ⟨b5,0,none⟩ (.int .i64 (bE r.length:Nat))]) zk (aB (mq za za) (aG (hs23.cell 3 rfl zk) av)),?_⟩
 refine aF (f:=110) (args:=#[.slice ao21 (((([]:List Int)++wd 1++wd ((m:Nat)+1))++hf (k:Nat)).length) co22,.int .u16 (bE r.length:Nat)]) Tryz.call110 (iu ((([]:List Int)++wd 1++wd ((m:Nat)+1))++hf (k:Nat)) (bE r.length:Nat) zC za hs23) ?_
 rintro v29 w30 ⟨ao26,co27,rfl,hs28⟩
 refine Lo (aL (Lt (Ls (Lg [8,11] (Dz ?_)))))
 have hcap31:=Sl.cap (hs28.at_ 6 rfl)
 refine Zj (Hl 1 4 0 hs28 (cH 3 ((k:Nat)*108) (cH 5 ((k:Nat)+1) (cH 6 (((k:Nat)+1)*108) (Hg 7 (.cI (.slice (dB ao co (k*108) 1) ((((cV r).drop (k*108)).take (((k+1)*108)-(k*108))).length) (co-(k*108))) (.sub (k*108) ((k+1)*108))) [.prop (((k:Nat)*108:Int)=((k*108:Nat):Int)),.prop ((((k:Nat)+1)*108:Int)=(((k+1)*108:Nat):Int)),.prop ((some (Operand.tmp 29)=none->(k*108:Nat)=0)/\(some (Operand.tmp 32)=none->((k+1)*108:Nat)=(cV r).length)/\(k*108:Nat)<=(k+1)*108/\((k+1)*108:Nat)<=co),.prop (Value.slice (if co=(k*108) then ao else (ao:Option Addr).map (λa=>a.add ((k*108)*1))) (((k+1)*108)-(k*108)) (co-(k*108))=Value.slice (dB ao co (k*108) 1) ((((cV r).drop (k*108)).take (((k+1)*108)-(k*108))).length) (co-(k*108)))] (aB za (aB za (aB ⟨(by first|(intro _;rfl)|(intro hc;cases hc)),(by first|(intro _;rfl)|(intro hc;cases hc)),za,za⟩ (aB (sB zA) av)))) Hz))))) ?_
 have hsl:((((([]:List Int)++wd 1++wd ((m:Nat)+1))++hf (k:Nat))++hf (bE r.length:Nat))++(((cV r).drop (k*108)).take (((k+1)*108)-(k*108)))).length=128:=lC (lf:=1) (nm:=(m:Nat)+1) (k:=k) (n:=bE r.length) (cd hk)
 refine ar.B2 (n:=128) hsl rfl zk aJ aj (ad:=ao26) (c:=co27) (xs:=((([]:List Int)++wd 1++wd ((m:Nat)+1))++hf (k:Nat))++hf (bE r.length:Nat)) (ys:=((cV r).drop (k*108)).take (((k+1)*108)-(k*108))) (adx:=dB ao co (k*108) 1) (cx:=(co-(k*108))) (0:Int) zk hs28 (ag.pU (hs28.rows 6 rfl aj.size (0:Int)) za za) (nN (hs28.eU 6 rfl)) zy zy ?_
 intro ad34 c35 w32 hs33
 obtain⟨ab36,rfl⟩:=Sl.isSome (hs33.at_ 0 rfl) za
 refine Eb (Hg 10 (.agg (aC.cells (fD ((((([]:List Int)++wd 1++wd ((m:Nat)+1))++hf (k:Nat))++hf (bE r.length:Nat))++(((cV r).drop (k*108)).take (((k+1)*108)-(k*108))))))) [.prop (Array.size (aC.cells (fD ((((([]:List Int)++wd 1++wd ((m:Nat)+1))++hf (k:Nat))++hf (bE r.length:Nat))++(((cV r).drop (k*108)).take (((k+1)*108)-(k*108))))))=128),.cells ⟨ab36,0,none⟩ (aC.cells (fD ((((([]:List Int)++wd 1++wd ((m:Nat)+1))++hf (k:Nat))++hf (bE r.length:Nat))++(((cV r).drop (k*108)).take (((k+1)*108)-(k*108))))))] (aB zk (dq (AU (hs33.rows 0 rfl aj.size 0) hsl) av)) Hz) ?_
 refine Zv (b:=b1) (off:=0) (v:=.agg (aC.cells (fD ((((([]:List Int)++wd 1++wd ((m:Nat)+1))++hf (k:Nat))++hf (bE r.length:Nat))++(((cV r).drop (k*108)).take (((k+1)*108)-(k*108))))))) (ti:=Tryz.t96) zk hs33 1 (cs':=aC.cells (fD ((((([]:List Int)++wd 1++wd ((m:Nat)+1))++hf (k:Nat))++hf (bE r.length:Nat))++(((cV r).drop (k*108)).take (((k+1)*108)-(k*108)))))) ?_
 intro w38 hs39
 refine Lo (Ld (Lt (Le (Dz ?_))))
 refine aw.done (.inl rfl) (v:=.agg (aC.cells (fD ((((([]:List Int)++wd 1++wd ((m:Nat)+1))++hf (k:Nat))++hf (bE r.length:Nat))++(((cV r).drop (k*108)).take (((k+1)*108)-(k*108))))))) (λa hf=>ct rfl zk (ti:=Tryz.t96) zk zk zk (hs39.cells 1 0 rfl zk) a hf) ?_
 have hs40:=hs39.dr 2
 exact⟨rfl,hs40⟩
theorem tD {w0 w:World}{L:List aI}{bk:Nat}{d:Nat}{ad:Option Addr}{cy:Nat}{D:Nat->aC}{nk:Nat}{g:et}(a:Nat) (to:Nat) (m:Nat) (r:List Int) (hrl:r.length<=4096) (hm:m<=60000) (hto:a+bE r.length<=to) (hto2:to<=32768) (hsm:se ad cy) (hk:nk<800) (hr:∀ w,St w0 L w->ag w ad r.length 1 (λk=>af (r.getD k 0))) (hs:St w0 (ah bk #[zP d 0,.int .i64 (a:Nat),.int .i64 (to:Nat),.int .u64 1,.int .i64 (m:Nat),.bool false] 138::DK d D nk g::L) w):Calls Tryz.prog 67 #[zP bk 0,.slice ad r.length cy] w (aZ λrv w'=>∃ (dq2:Nat->aC) (gd2:et),rv=.int .i64 0/\lD dq2 a ((m:Nat)+1) r/\(∀ x,(x<a\/a+bE r.length<=x)->dq2 x=D x)/\St w0 (ah bk #[zP d 0,.int .i64 ((a:Nat)+(bE r.length:Nat)),.int .i64 (to:Nat),.int .u64 1,.int .i64 ((m:Nat)+1),.bool false] 138::DK d dq2 0 gd2::L) w'):=by
 refine bp Tryz.func67 Tryz.ntmps67 ?_
 refine Zs (?_)
 have hpg:bE r.length<=38/\r.length+2<=bE r.length*108:=by unfold bE;omega
 refine Zg [0] ?_
 refine ar.box rfl rfl zk (v:=zP bk 0) zk hs (cs:=#[zP bk 0]) zk ?_
 intro b1 w2 hs3
 refine Lo (aL (Lt (Ls (Lg [2,3,4] (Lu (Dz ?_))))))
 refine aF Tryz.call109 (oL r.length za hs3) ?_
 rintro v5 w6 ⟨rfl,hs4⟩
 refine Lo (Dz ?_)
 refine ar.alloc rfl rfl zk (z:=.int .i64 0) zk hs4 (cs:=#[.int .i64 0]) zk ?_
 intro b7 w8 hs9
 refine Lo (Dz ?_)
 refine Zv (b:=b7) (off:=0) (v:=.int .i64 (bE r.length:Nat)) (ti:=Tryz.t3) zk hs9 0 (cs':=#[.int .i64 (bE r.length:Nat)]) ?_
 intro w10 hs11
 refine Lo (Ld (Lt (Ls (Lb (Ls (Dz ?_))))))
 refine bj (Hl 0 1 0 hs11 Hz) ?_
 refine En (Lt (LF (Ls (La (Lt (Dz ?_))))))
 refine Zi (((r.length:Nat):Int)>4096) (λh12'=>?_) (λh12'=>?_)
 ·exfalso;omega
 ·refine Zs (?_)
  refine bj (Hl 0 1 0 hs11 (Hl 3 2 5 hs11 Hz)) ?_
  refine En (Lt (LF (Ls (Dz ?_))))
  refine aE.aV [0,1,3,7,0,31,0,64,192,448,1023,2047] (.rd 0 (.rd 1 (.rd 2 (.rd 3 (.rd 4 (.rd 5 (.rd 6 (.rd 7 (.rd 8 (.rd 9 (.rd 10 (.rd 11 .done)))))))))))) zk zk ai zk hs11 ?_
  intro w13 hs14 hw15
  refine gY (Hl 0 1 0 hs14 (Hl 3 2 1 hs14 (Hl 4 0 0 hs14 (cH 5 ((a:Nat)+(bE r.length:Nat)) (Hl 6 1 0 hs14 (Hl 9 2 2 hs14 Hz)))))) ?_
  refine Zt (?_)
  refine Zi (((a:Nat)+(bE r.length:Nat):Int)>(to:Nat)) (λh16'=>?_) (λh16'=>?_)
  ·exfalso;omega
  ·refine Zk (Zm (Zt (Zs (?_))))
   refine bL [3,5,6,7] (Hg 2 (.cI (.int .u16 (r.length:Nat)) (.gen [])) [.prop (Value.int .u16 (IntKind.u16.wrap (r.length:Nat))=Value.int .u16 (r.length:Nat))] (aB (mq za za) av) Hz) ?_
   have hs17:=St.bW hs14 5 1 af
   refine aF (f:=110) (args:=#[.slice none (([]:List Int).length) 0,.int .u16 (r.length:Nat)]) Tryz.call110 (iu ([]:List Int) (r.length:Nat) zb za hs17) ?_
   rintro v21 w22 ⟨ao18,co19,rfl,hs20⟩
   refine Lo (Lu (Dz ?_))
   refine ar.append rfl zk aJ aj (ad:=ao18) (c:=co19) (xs:=([]:List Int)++hf (r.length:Nat)) (ys:=r) (adx:=ad) (cx:=cy) (0:Int) zk hs20 (hr _ (hs20.drop 5)) hsm.nn zy zy ?_
   intro ad25 c26 w23 hs24
   refine Lo (Dz ?_)
   refine ar.alloc rfl rfl zk (z:=.slice none 0 0) zk hs24 (cs:=#[.slice none 0 0]) zk ?_
   intro b27 w28 hs29
   refine Lo (Dz ?_)
   refine Zv (b:=b27) (off:=0) (v:=.slice ad25 (((([]:List Int)++hf (r.length:Nat))++r).length) c26) (ti:=Tryz.t85) zk hs29 0 (cs':=#[.slice ad25 (((([]:List Int)++hf (r.length:Nat))++r).length) c26]) ?_
   intro w30 hs31
   refine Lo (Ld (Lt (Ls (Dz ?_))))
   have hal:((([]:List Int)++hf (r.length:Nat))++r).length=2+r.length:=by simp only [List.length_append,aY,List.length_nil,Nat.zero_add]
   refine bL [6,7] (Hl 0 0 0 hs31 (Hl 1 2 0 hs31 (cH 2 ((bE r.length:Nat)*108) (Hl 3 0 0 hs31 (Hg 5 (.cI (.int .i64 ((bE r.length)*108-(((([]:List Int)++hf (r.length:Nat))++r).length):Nat)) (.gen [])) [.prop (Value.int .i64 (IntKind.i64.wrap (((bE r.length:Nat)*108)-(((([]:List Int)++hf (r.length:Nat))++r).length:Nat)))=Value.int .i64 ((bE r.length)*108-(((([]:List Int)++hf (r.length:Nat))++r).length):Nat))] (aB (de za za za) av) Hz))))) ?_
   have hs34:=hs31.pl 1
   refine ar.oH rfl zk (t:=85) (t':=3) (e:=5) (k:=.i64) (k':=.i64) zk zk (ie:=Tryz.t5) zk (z:=.int .u8 0) zk aj (0:Int) zk zk zf (ad:=ad25) (c:=c26) (n:=((bE r.length)*108-(((([]:List Int)++hf (r.length:Nat))++r).length))) (xs:=(([]:List Int)++hf (r.length:Nat))++r) zk hs34 (by show(_+_)*2<=_;omega) ?_
   intro ad35 c36 w32 hs33
   refine Lo (Dz ?_)
   refine Zv (b:=b27) (off:=0) (v:=.slice ad35 ((((([]:List Int)++hf (r.length:Nat))++r)++List.replicate ((bE r.length)*108-(((([]:List Int)++hf (r.length:Nat))++r).length)) (0:Int)).length) c36) (ti:=Tryz.t85) zk hs33 1 (cs':=#[.slice ad35 ((((([]:List Int)++hf (r.length:Nat))++r)++List.replicate ((bE r.length)*108-(((([]:List Int)++hf (r.length:Nat))++r).length)) (0:Int)).length) c36]) ?_
   intro w37 hs38
   refine Lo (Ld (Lt (Ls (La (Lt (Ls (La (Lt (Ls (Ls (La (Lt (Lb (Dz ?_))))))))))))))
   have hs39:=(((((hs38.pl 5).pl 1).pl 5).pl 3).pl 4).pl 5
   have hs40:St w0 (ah b1 #[zP bk 0] 64::ah b7 #[.int .i64 (bE r.length:Nat)] 3::ah b27 #[.slice ad35 ((cV r).length) c36] 85::ah bk #[zP d 0,.int .i64 (a:Nat),.int .i64 (to:Nat),.int .u64 1,.int .i64 (m:Nat),.bool false] 138::Sl ad35 c36 5 1 af (cV r)::DK d (mg D a ((m:Nat)+1) r 0) (nk+0) g::L) w37:=by rw [DQ];exact hs39
   refine aE.loop (T:=Nat×et) (λgg=>[(2,zP b1 0),(4,.int .i64 0),(5,zP b7 0),(7,.func (.func 111) #[] #[zP b1 0,zP b7 0,zP b27 0]),(8,.int .i64 0),(9,.int .i64 (gg.1:Nat))]) (λgg w=>(gg.1<=bE r.length)/\St w0 (ah b1 #[zP bk 0] 64::ah b7 #[.int .i64 (bE r.length:Nat)] 3::ah b27 #[.slice ad35 ((cV r).length) c36] 85::ah bk #[zP d 0,.int .i64 (a:Nat),.int .i64 (to:Nat),.int .u64 1,.int .i64 (m:Nat),.bool false] 138::Sl ad35 c36 5 1 af (cV r)::DK d (mg D a ((m:Nat)+1) r gg.1) (nk+gg.1) gg.2::L) w) (λgg=>bE r.length-gg.1) (0,g) [2,4,5,7,8,9] zk ⟨Nat.zero_le _,hs40⟩ ?_
   rintro⟨k,gd1⟩ w41 ⟨hp0,hs42⟩
   have hp:k<=bE r.length:=hp0
   have hs43:St w0 (ah b1 #[zP bk 0] 64::ah b7 #[.int .i64 (bE r.length:Nat)] 3::ah b27 #[.slice ad35 ((cV r).length) c36] 85::ah bk #[zP d 0,.int .i64 (a:Nat),.int .i64 (to:Nat),.int .u64 1,.int .i64 (m:Nat),.bool false] 138::Sl ad35 c36 5 1 af (cV r)::DK d (mg D a ((m:Nat)+1) r k) (nk+k) gd1::L) w41:=hs42
   refine Zn [(2,zP b1 0),(4,.int .i64 0),(5,zP b7 0),(7,.func (.func 111) #[] #[zP b1 0,zP b7 0,zP b27 0]),(8,.int .i64 0),(9,.int .i64 (k:Nat))] ?_
   refine Zs (Zs (?_))
   refine aE.join (T:=Unit) (E:=λ_=>[(57,.bool (decide (((k:Nat):Int)<(bE r.length:Nat)))),(2,zP b1 0),(4,.int .i64 0),(5,zP b7 0),(7,.func (.func 111) #[] #[zP b1 0,zP b7 0,zP b27 0]),(8,.int .i64 0),(9,.int .i64 (k:Nat))]) (F:=λ_ w=>St w0 (ah b1 #[zP bk 0] 64::ah b7 #[.int .i64 (bE r.length:Nat)] 3::ah b27 #[.slice ad35 ((cV r).length) c36] 85::ah bk #[zP d 0,.int .i64 (a:Nat),.int .i64 (to:Nat),.int .u64 1,.int .i64 (m:Nat),.bool false] 138::Sl ad35 c36 5 1 af (cV r)::DK d (mg D a ((m:Nat)+1) r k) (nk+k) gd1::L) w) ?_ ?_
   ·refine Zg [] ?_
    refine Zp 0 4 [(1,.gen [.int .i64 (bE r.length:Nat)])] [(1,[.cell ⟨b7,0,none⟩ (.int .i64 (bE r.length:Nat))])] (ak (aG (hs43.cell 1 rfl zk) av) cW) ?_
    rcases Bool.eq_false_or_eq_true (decide (((k:Nat):Int)<(bE r.length:Nat))) with h44|h44
    ·refine di 54 true h44 ?_
     have h44':((k:Nat):Int)<(bE r.length:Nat):=of_decide_eq_true h44
     refine En (aL (Dz ?_))
     refine aw.pick [57,2,4,5,7,8,9] (S':=[(57,.bool true),(2,zP b1 0),(4,.int .i64 0),(5,zP b7 0),(7,.func (.func 111) #[] #[zP b1 0,zP b7 0,zP b27 0]),(8,.int .i64 0),(9,.int .i64 (k:Nat))]) zk ?_
     exact aw.bD () (by first|rfl|(simp only [h44,Bool.not_true,Bool.not_false,Bool.true_or,Bool.false_or,Bool.true_and,Bool.false_and,Bool.or_true,Bool.or_false,Bool.and_true,Bool.and_false];done)|(simp [h44];done)) hs43
    ·refine di 54 false h44 ?_
     have h44':¬ (((k:Nat):Int)<(bE r.length:Nat)):=of_decide_eq_false h44
     have hke:k=bE r.length:=za
     subst hke
     refine En (aL (Dz ?_))
     refine aw.pick [57,2,4,5,7,8,9] (S':=[(57,.bool false),(2,zP b1 0),(4,.int .i64 0),(5,zP b7 0),(7,.func (.func 111) #[] #[zP b1 0,zP b7 0,zP b27 0]),(8,.int .i64 0),(9,.int .i64 (bE r.length:Nat))]) zk ?_
     exact aw.bD () (by first|rfl|(simp only [h44,Bool.not_true,Bool.not_false,Bool.true_or,Bool.false_or,Bool.true_and,Bool.false_and,Bool.or_true,Bool.or_false,Bool.and_true,Bool.and_false];done)|(simp [h44];done)) hs43
   intro _ w45 hs46
   refine Zt (?_)
   refine Zi (((k:Nat):Int)<(bE r.length:Nat)) (λh47'=>?_) (λh47'=>?_)
   ·refine Zk (Zt (Zs (Zb (?_))))
    refine aE.aV [0,1,3,7,0,16,48,112,0,496,0,0,3072,8191,16383] (.rd 0 (.rd 1 (.rd 2 (.rd 3 (.rd 4 (.rd 5 (.rd 6 (.rd 7 (.rd 8 (.rd 9 (.rd 10 (.rd 11 (.ef 12 (.ef 13 (.rd 14 .done))))))))))))))) zk zk ai zk hs46 ?_
    intro w48 hs49 hw50
    refine Zj (Hl 0 0 0 hs49 (Hl 3 3 0 hs49 (Hl 4 0 0 hs49 (Hl 7 3 1 hs49 (cH 9 ((a:Nat)+(k:Nat)) Hz))))) ?_
    refine aF Tryz.call111 (vP a to m r k hrl zc zc hs49) ?_
    rintro v52 w53 ⟨rfl,hs51⟩
    refine⟨bw (n:=[.prop (Value.int .i64 (IntKind.i64.wrap ((a:Nat)+(k:Nat)))=Value.int .i64 ((a:Nat)+(k:Nat))),.cell ⟨bk,1,none⟩ (.int .i64 (a:Nat)),.cell ⟨b1,0,none⟩ (zP bk 0),.cell ⟨bk,0,none⟩ (zP d 0),.cell ⟨b1,0,none⟩ (zP bk 0)]) zk (aB (dD za za) (aG (hs51.cell 3 rfl zk) (aG (hs51.cell 0 rfl zk) (aG (hs51.cell 3 rfl zk) (aG (hs51.cell 0 rfl zk) av))))),?_⟩
    have hs54:=hs51.pl 5
    refine aF Tryz.call112 (mK (a+k) (fD (kj 1 ((m:Nat)+1) k (bE r.length) (chunk r k))) zc zc hs54) ?_
    rintro v57 w58 ⟨gd55,rfl,hs56⟩
    refine Lo (aL (Lm (Lt (Dz ?_))))
    refine bj (cH 1 ((k:Nat)+1) Hz) ?_
    have hs59:=(((((hs56.pl 0).pl 5).pl 5).pl 5).pl 5).pl 5
    have hs60:St w0 (ah b1 #[zP bk 0] 64::ah b7 #[.int .i64 (bE r.length:Nat)] 3::ah b27 #[.slice ad35 ((cV r).length) c36] 85::ah bk #[zP d 0,.int .i64 (a:Nat),.int .i64 (to:Nat),.int .u64 1,.int .i64 (m:Nat),.bool false] 138::Sl ad35 c36 5 1 af (cV r)::DK d (mg D a ((m:Nat)+1) r (k+1)) (nk+(k+1)) gd55::L) w58:=by rw [<- DR];exact hs59
    exact aw.back (k+1,gd55) [2,4,5,7,8,9] zk (by show bE r.length-(k+1)<bE r.length-k;omega) ⟨za,hs60⟩
   ·have hke:k=bE r.length:=za
    subst hke
    refine En (Lx (gv (gw (Lh (Lt (Ls (Ls (La (Lt (LT (Dz ?_)))))))))))
    refine bL [4] (Hl 0 0 0 hs46 (Hl 3 3 0 hs46 Hz)) ?_
    have hs61:=hs46.pl 5
    refine aF Tryz.call87 (kv zc hs61) ?_
    rintro v64 w65 ⟨gd62,rfl,hs63⟩
    refine Lo (aL (Lt (Ls (Ls (Dz ?_)))))
    refine bL [5] (Hl 0 1 0 hs63 Hz) ?_
    refine Zv (b:=bk) (off:=5) (v:=.bool false) (ti:=Tryz.t4) zk hs63 4 (cs':=#[zP d 0,.int .i64 (a:Nat),.int .i64 (to:Nat),.int .u64 1,.int .i64 (m:Nat),.bool false]) ?_
    intro w66 hs67
    refine Lo (Ld (Lt (Ls (Dz ?_))))
    refine bj (Hl 0 1 0 hs67 (Hl 3 4 5 hs67 Hz)) ?_
    refine En (Lt (LT (Ls (Dz ?_))))
    refine aE.aV [0,1,3,7,0,31,63,127,255] (.rd 0 (.rd 1 (.rd 2 (.rd 3 (.rd 4 (.rd 5 (.rd 6 (.rd 7 (.ef 8 .done))))))))) zk zk ai zk hs67 ?_
    intro w68 hs69 hw70
    refine Zj (Hl 0 1 0 hs69 (Hl 3 4 1 hs69 (Hl 4 2 0 hs69 (cH 5 ((a:Nat)+(bE r.length:Nat)) Hz)))) ?_
    refine Zv (b:=bk) (off:=1) (v:=.int .i64 ((a:Nat)+(bE r.length:Nat))) (ti:=Tryz.t3) zk hs69 4 (cs':=#[zP d 0,.int .i64 ((a:Nat)+(bE r.length:Nat)),.int .i64 (to:Nat),.int .u64 1,.int .i64 (m:Nat),.bool false]) ?_
    intro w71 hs72
    refine Lo (Ld (Lt (Dz ?_)))
    refine bL [7] (Hl 0 1 0 hs72 (Hl 3 4 4 hs72 (cH 4 ((m:Nat)+1) Hz))) ?_
    refine Zv (b:=bk) (off:=4) (v:=.int .i64 ((m:Nat)+1)) (ti:=Tryz.t3) zk hs72 4 (cs':=#[zP d 0,.int .i64 ((a:Nat)+(bE r.length:Nat)),.int .i64 (to:Nat),.int .u64 1,.int .i64 ((m:Nat)+1),.bool false]) ?_
    intro w73 hs74
    refine Lo (Ld (Lt (Ls (La (Lt (Le (Dz ?_)))))))
    refine bg (v:=.int .i64 0) ?_
    have hs75:=(((((hs74.pl 0).pl 4).pl 5).pl 5).pl 5).pl 5
    have hs76:=hs75.dr 4
    exact⟨mg D a ((m:Nat)+1) r (bE r.length),gd62,rfl,lD.put,(λx hx=>A0 hx),hs76⟩
theorem mh {w0 w:World}{L:List aI}{bk:Nat}{d:Nat}{D:Nat->aC}{nk:Nat}{g:et}(a:Int) (to:Nat) (lb:Int) (m:Int) (at_:Nat) (lf:Int) (nm:Int) (k:Nat) (n:Nat) (ch:List Int) (hat:at_<to) (hto:to<=32768) (hD:D at_=fD (kj lf nm k n ch)) (hch:ch.length=108) (hcb:∀ z∈ch,0<=z/\z<256) (hlf:0<=lf/\lf<18446744073709551616) (hnm:0<=nm/\nm<18446744073709551616) (hkk:k<65536) (hnn:n<65536) (hs:St w0 (ah bk #[zP d 0,.int .i64 a,.int .i64 (to:Nat),.int .u64 lb,.int .i64 m,.bool false] 138::DK d D nk g::L) w):Calls Tryz.prog 135 #[zP bk 0,.int .i64 (at_:Nat)] w (aZ λrv w'=>∃ (ao:Option Addr) (co:Nat),rv=.tuple #[.agg (bY.cells (⟨lf,nm,(k:Nat),(n:Nat)⟩:bY)),.slice ao ch.length co,.bool true]/\St w0 (ah bk #[zP d 0,.int .i64 a,.int .i64 (to:Nat),.int .u64 lb,.int .i64 m,.bool false] 138::DK d D nk g::Sl ao co 5 1 af ch::L) w'):=by
 refine bp Tryz.func135 Tryz.ntmps135 ?_
 refine En (Ls (Lg [0] (Dz ?_)))
 refine ar.alloc rfl rfl zk (z:=.agg (bY.cells tC)) zk hs (cs:=bY.cells tC) zk ?_
 intro b1 w2 hs3
 refine Lo (aL (Lt (Ls (Ls (Dz ?_)))))
 refine bj (Hl 4 1 2 hs3 Hz) ?_
 refine Zt (?_)
 refine Zi (((at_:Nat):Int) >= (to:Nat)) (λh4'=>?_) (λh4'=>?_)
 ·exfalso;omega
 ·refine Zk (Zt (Zs (?_)))
  refine bL [5,9,10] (Hl 3 1 0 hs3 Hz) ?_
  have hs5:=hs3.pl 2
  refine aF Tryz.call38 (gT at_ zc hs5) ?_
  rintro v7 w8 ⟨rfl,hs6⟩
  refine Lo (Lu (Dz ?_))
  refine ar.alloc rfl rfl zk (z:=.agg (aC.cells fX)) zk hs6 (cs:=aC.cells fX) zk ?_
  intro b9 w10 hs11
  refine Lo (Dz ?_)
  refine Zv (b:=b9) (off:=0) (v:=.agg (aC.cells (D at_))) (ti:=Tryz.t96) zk hs11 0 (cs':=aC.cells (D at_)) ?_
  intro w12 hs13
  refine Lo (aL (Lt (Ls (Ls (La (Lt (LF (Lk (Lt (Ls (Dz ?_)))))))))))
  have hsl:(D at_).toList=(wd lf++(wd nm++(hf (k:Nat)++(hf (n:Nat)++ch))))++[]:=by rw [hD,hJ (lC hch)];simp only [kj,List.nil_append,List.append_nil,List.append_assoc]
  refine bL [1] (Hg 0 (.cI (zL b9 0 ((wd lf++(wd nm++(hf (k:Nat)++(hf (n:Nat)++ch)))).length) 128) (.sub 0 128)) [.prop (((none:Option Operand)=none->(0:Nat)=0)/\((none:Option Operand)=none->(128:Nat)=128)/\(0:Nat)<=128/\(128:Nat)<=128),.prop (Value.slice (some (if 128=0 then Addr.mk b9 0 none else (Addr.mk b9 0 none).add (0*1))) (128-0) (128-0)=Value.slice (some ⟨b9,0,none⟩) ((wd lf++(wd nm++(hf (k:Nat)++(hf (n:Nat)++ch)))).length) 128)] (aB ⟨(by first|(intro _;rfl)|(intro hc;cases hc)),(by first|(intro _;rfl)|(intro hc;cases hc)),za,za⟩ (aB (by rw [(show(wd lf++(wd nm++(hf (k:Nat)++(hf (n:Nat)++ch)))).length=128-0 from by simp only [List.length_append,aP,aY,hch])];exact cw _ _ _ _ _ zf) av)) Hz) ?_
  refine aF (f:=54) (args:=#[zL b9 0 ((wd lf++(wd nm++(hf (k:Nat)++(hf (n:Nat)++ch)))).length) 128]) Tryz.call54 (df (wd lf++(wd nm++(hf (k:Nat)++(hf (n:Nat)++ch)))) (by simp only [List.length_append,aP,aY,hch];omega) (.inl ⟨_,_,rfl⟩) (λw h=>xu h 0 rfl hsl) hs13) ?_
  rintro v18 w19 ⟨cc14,ao15,co16,rfl,hs17⟩
  have hq20:aX (Sl ao15 co16 5 1 af (wd lf++(wd nm++(hf (k:Nat)++(hf (n:Nat)++ch))))) ao15 (wd lf++(wd nm++(hf (k:Nat)++(hf (n:Nat)++ch)))) co16:=aX.new hs17 (j:=1) rfl (fE.app (eC _) (fE.app (eC _) (fE.app (oI _) (fE.app (oI _) hcb)))) (by simp only [List.length_append,aP,aY,hch];omega)
  refine Lo (aL (Lt (Ls (Lg [1,3,5,7,9] (Lu (Dz ?_))))))
  refine aF Tryz.call55 (fc (Sl ao15 co16 5 1 af (wd lf++(wd nm++(hf (k:Nat)++(hf (n:Nat)++ch))))) (wd lf++(wd nm++(hf (k:Nat)++(hf (n:Nat)++ch)))) (wd nm++(hf (k:Nat)++(hf (n:Nat)++ch))) lf zp zD (λw h=>h.at_ 0 rfl) hq20 hs17) ?_
  rintro v25 w26 ⟨az21,cz22,rfl,hq223,hs24⟩
  refine Lo (Lu (Dz ?_))
  refine aF Tryz.call55 (fc (Sl ao15 co16 5 1 af (wd lf++(wd nm++(hf (k:Nat)++(hf (n:Nat)++ch))))) (wd nm++(hf (k:Nat)++(hf (n:Nat)++ch))) (hf (k:Nat)++(hf (n:Nat)++ch)) nm zp zD (λw h=>h.at_ 0 rfl) hq223 hs24) ?_
  rintro v31 w32 ⟨az27,cz28,rfl,hq229,hs30⟩
  refine Lo (Lu (Dz ?_))
  refine aF Tryz.call130 (fe (Sl ao15 co16 5 1 af (wd lf++(wd nm++(hf (k:Nat)++(hf (n:Nat)++ch))))) (hf (k:Nat)++(hf (n:Nat)++ch)) (hf (n:Nat)++ch) k zp zD (λw h=>h.at_ 0 rfl) hq229 hs30) ?_
  rintro v37 w38 ⟨az33,cz34,rfl,hq235,hs36⟩
  refine Lo (Lu (Dz ?_))
  refine aF Tryz.call130 (fe (Sl ao15 co16 5 1 af (wd lf++(wd nm++(hf (k:Nat)++(hf (n:Nat)++ch))))) (hf (n:Nat)++ch) ch n zp zD (λw h=>h.at_ 0 rfl) hq235 hs36) ?_
  rintro v43 w44 ⟨az39,cz40,rfl,hq241,hs42⟩
  refine Lo (Lu (Dz ?_))
  refine Zv (b:=b1) (off:=0) (v:=.agg (bY.cells (⟨lf,nm,(k:Nat),(n:Nat)⟩:bY))) (ti:=Tryz.t208) zk hs42 4 (cs':=bY.cells (⟨lf,nm,(k:Nat),(n:Nat)⟩:bY)) ?_
  intro w45 hs46
  refine Lo (Ld (Lt (Ls (Dz ?_))))
  refine aE.aV [0,0,2,7,15,31] (.rd 0 (.rd 1 (.ef 2 (.ef 3 (.rd 4 (.rd 5 .done)))))) zk zk ai zk hs46 ?_
  intro w47 hs48 hw49
  refine Zj (du 0 4 0 4 (bY.cells (⟨lf,nm,(k:Nat),(n:Nat)⟩:bY)) hs48 Hz) ?_
  refine aF Tryz.call56 (eT (Sl ao15 co16 5 1 af (wd lf++(wd nm++(hf (k:Nat)++(hf (n:Nat)++ch))))) ch 108 ch ([]:List Int) zp zD (λw h=>h.at_ 0 rfl) hq241 hs48) ?_
  rintro v56 w57 ⟨ao50,co51,az52,cz53,rfl,hq254,hs55⟩
  refine⟨bw (n:=[.prop (Array.size (bY.cells (⟨lf,nm,(k:Nat),(n:Nat)⟩:bY))=4),.cells ⟨b1,0,none⟩ (bY.cells (⟨lf,nm,(k:Nat),(n:Nat)⟩:bY))]) zk (aB zk (dq (hs55.cells 5 0 rfl zk) av)),?_⟩
  refine Zv (b:=b1) (off:=0) (v:=.agg (bY.cells (⟨lf,nm,(k:Nat),(n:Nat)⟩:bY))) (ti:=Tryz.t208) zk hs55 5 (cs':=bY.cells (⟨lf,nm,(k:Nat),(n:Nat)⟩:bY)) ?_
  intro w58 hs59
  refine Lo (aL (Lt (Le (Dz ?_))))
  refine aw.done (.inl rfl) (v:=.tuple #[.agg (bY.cells (⟨lf,nm,(k:Nat),(n:Nat)⟩:bY)),.slice ao50 ch.length co51,.bool true]) (λa hf=>gG rfl (RV.agg zk (ti:=Tryz.t208) zk zk (vs:=bY.cells (⟨lf,nm,(k:Nat),(n:Nat)⟩:bY)) zk (hs59.cells 5 0 rfl zk)) (RV.tmp zk) (RV.tmp zk) a hf) ?_
  have hs60:=((((((hs59.pl 0).pl 4).pl 6).pl 6).pl 6).pl 6).pl 6
  have hs61:=hs60.dr 4
  exact⟨ao50,co51,rfl,hs61⟩
theorem jA (r:List Int):chunk r 0=(cV r).take (1*108):=rfl
theorem yF (r:List Int):∃ e,chunk r 0=hf (r.length:Nat)++e:=by
 have h:bE r.length*108-0*108 >= 2:=by unfold bE;omega
 refine⟨(r++List.replicate (bE r.length*108-((([]:List Int)++hf (r.length:Nat))++r).length) (0:Int)).take 106,?_⟩
 rw [jA,cV,List.nil_append,List.append_assoc,List.take_append,aY,List.take_of_length_le (by rw [aY];decide)]
def eu (r:List Int):List Int:=List.replicate (bE r.length*108-((([]:List Int)++hf (r.length:Nat))++r).length) (0:Int)
theorem oM (r:List Int):(cV r).take (bE r.length*108)=hf (r.length:Nat)++(r++eu r):=by
 rw [List.take_of_length_le (by rw [eP];exact Nat.le_refl _),cV,List.nil_append,List.append_assoc]
 rfl
theorem gb (r:List Int):(eu r).length=bE r.length*108-(r.length+2):=by
 simp only [eu,List.length_replicate,List.length_append,List.length_nil,aY]
 omega
theorem tE (r:List Int):∀ z∈eu r,0<=z/\z<256:=λz hz=>by
 rw [(List.mem_replicate.1 hz).2]
 decide
theorem C2 (r:List Int) (i:Nat):(eu r).getD i 0=0:=by
 rw [List.getD_eq_getElem?_getD,eu,List.getElem?_replicate]
 split<;>rfl
theorem mi {r:List Int}(h:∀ z∈r,0<=z/\z<256) (k:Nat):∀ z∈chunk r k,0<=z/\z<256:=λz hz=>by
 have h1:z∈cV r:=List.mem_of_mem_drop (List.mem_of_mem_take hz)
 have h2:fE (cV r):=fE.app (fE.app (fE.app fE.nil (oI _)) h) (tE r)
 exact h2 z h1
theorem vQ {w0 w:World}{L:List aI}{bk:Nat}{d:Nat}{D:Nat->aC}{nk:Nat}{g:et}(a:Nat) (to:Nat) (lb:Int) (m:Nat) (r:List Int) (hrl:r.length<=4096) (hrb:∀ z∈r,0<=z/\z<256) (hrec:lD D a ((m:Nat)+1) r) (hlb:(1<=lb/\lb<18446744073709551616)) (hm:m<=60000) (hto:a+bE r.length<=to) (hto2:to<=32768) (hs:St w0 (ah bk #[zP d 0,.int .i64 (a:Nat),.int .i64 (to:Nat),.int .u64 lb,.int .i64 (m:Nat),.bool false] 138::DK d D nk g::L) w):Calls Tryz.prog 100 #[zP bk 0,.int .u64 1] w (aZ λrv w'=>∃ (ao:Option Addr) (co:Nat),rv=.tuple #[.slice ao r.length co,.agg (bY.cells (⟨1,((m:Nat)+1),0,(bE r.length:Nat)⟩:bY)),.bool true]/\St w0 (ah bk #[zP d 0,.int .i64 (a:Nat),.int .i64 (to:Nat),.int .u64 lb,.int .i64 (m:Nat),.bool false] 138::DK d D nk g::Sl ao co 5 1 af r::L) w'):=by
 refine bp Tryz.func100 Tryz.ntmps100 ?_
 refine Zs (?_)
 have hpg:bE r.length<=38/\r.length+2<=bE r.length*108:=by unfold bE;omega
 have h0:0<bE r.length:=za
 have hpl:=gb r
 refine En (Lg [1] (Lu (Dz ?_)))
 refine ar.alloc rfl rfl zk (z:=.agg (bY.cells tC)) zk hs (cs:=bY.cells tC) zk ?_
 intro b1 w2 hs3
 refine Lo (aL (Lt (Ls (Dz ?_))))
 refine bL [5,10] (Hl 4 1 1 hs3 Hz) ?_
 have hs4:=(hs3.pl 2).pl 2
 refine aF Tryz.call135 (mh (a:Nat) to lb (m:Nat) a 1 ((m:Nat)+1) 0 (bE r.length) (chunk r 0) zc zc (show D a=_ from hrec 0 h0) (cd h0) (mi hrb _) za za zc zc hs4) ?_
 rintro v8 w9 ⟨ao5,co6,rfl,hs7⟩
 refine Lo (Lu (Dz ?_))
 refine Zv (b:=b1) (off:=0) (v:=.agg (bY.cells (⟨1,((m:Nat)+1),0,(bE r.length:Nat)⟩:bY))) (ti:=Tryz.t208) zk hs7 3 (cs':=bY.cells (⟨1,((m:Nat)+1),0,(bE r.length:Nat)⟩:bY)) ?_
 intro w10 hs11
 refine Lo (aL (Lt (Ls (Ls (Dz ?_)))))
 refine aE.aV [0,1,3,7,15,7,39,103,231,487,999,2047,4095,8191,16383,32767,65535,131071,262143,524287,1048575,524287,4194303,8388607,16777215,33554431,67108863,33554431,167772159,436207615,973078527,2147483647,4294967295] (.rd 0 (.rd 1 (.rd 2 (.rd 3 (.rd 4 (.rd 5 (.rd 6 (.rd 7 (.rd 8 (.rd 9 (.rd 10 (.rd 11 (.rd 12 (.rd 13 (.rd 14 (.rd 15 (.rd 16 (.rd 17 (.rd 18 (.rd 19 (.rd 20 (.rd 21 (.rd 22 (.rd 23 (.rd 24 (.rd 25 (.rd 26 (.rd 27 (.rd 28 (.rd 29 (.rd 30 (.rd 31 (.rd 32 .done))))))))))))))))))))))))))))))))) zk zk ai zk hs11 ?_
 intro w12 hs13 hw14
 refine gY (Hl 4 3 1 hs13 (Hl 8 0 4 hs13 (cH 9 ((m:Nat)+1) (qU 10 ((m:Nat)+1) (Hg 11 (.cI (.bool false) (.gen [])) [.prop (Value.bool ((((m:Nat)+1):Int) != ((m:Nat)+1))=Value.bool false)] (aB zG av) (Hl 15 3 2 hs13 (Hl 20 3 0 hs13 (Hl 26 3 0 hs13 (Hl 30 0 3 hs13 Hz))))))))) ?_
 refine Zt (?_)
 refine Zi ((1:Int)>lb) (λh15'=>?_) (λh15'=>?_)
 ·exfalso;omega
 ·refine Zk (Zt (Zs (?_)))
  obtain⟨e0,he0⟩:=yF r
  have hs16:St w0 (ah bk #[zP d 0,.int .i64 (a:Nat),.int .i64 (to:Nat),.int .u64 lb,.int .i64 (m:Nat),.bool false] 138::DK d D nk g::Sl ao5 co6 5 1 af (hf (r.length:Nat)++e0)::ah b1 (bY.cells (⟨1,((m:Nat)+1),0,(bE r.length:Nat)⟩:bY)) 208::L) w12:=he0▸hs13
  refine Zn [(59,.bool (decide ((1:Int)>lb))),(6,.bool true),(7,.slice ao5 ((chunk r 0).length) co6),(5,zP b1 0),(4,.slice none 0 0),(0,zP bk 0)] ?_
  refine aE.cq (S':=[(59,.bool (decide ((1:Int)>lb))),(6,.bool true),(7,.slice ao5 ((hf (r.length:Nat)++e0).length) co6),(5,zP b1 0),(4,.slice none 0 0),(0,zP bk 0)]) (by rw [he0]) ?_
  refine En (Lg [1,2] (Lu (Dz ?_)))
  refine aF (f:=54) (args:=#[.slice ao5 ((hf (r.length:Nat)++e0).length) co6]) Tryz.call54 (df (hf (r.length:Nat)++e0) (by first|omega|(simp only [List.length_append,List.length_nil,aY,gb,<- he0,cd h0];omega)|(rw [<- he0,cd h0];omega)) (dQ hs16 2 rfl) (λw h=>h.rows 2 rfl aj.size _) hs16) ?_
  rintro v21 w22 ⟨cc17,ao18,co19,rfl,hs20⟩
  have hq23:aX (Sl ao18 co19 5 1 af (hf (r.length:Nat)++e0)) ao18 (hf (r.length:Nat)++e0) co19:=aX.new hs20 (j:=1) rfl (he0▸mi hrb 0) (by rw [<- he0,cd h0];omega)
  refine Lo (Dz ?_)
  refine aF Tryz.call130 (fe (Sl ao18 co19 5 1 af (hf (r.length:Nat)++e0)) (hf (r.length:Nat)++e0) e0 r.length zp zc (λw h=>h.at_ 0 rfl) hq23 hs20) ?_
  rintro v28 w29 ⟨az24,cz25,rfl,hq226,hs27⟩
  refine z4 (cH 3 (r.length:Nat) Hz) ?_
  refine Zt (Zs (Zs (?_)))
  refine aE.aV [0,1,3,7,15,31,7,71,255,511] (.rd 0 (.rd 1 (.rd 2 (.rd 3 (.rd 4 (.rd 5 (.rd 6 (.ef 7 (.rd 8 (.rd 9 .done)))))))))) zk zk ai zk hs27 ?_
  intro w30 hs31 hw32
  refine Zr 0 3 [] ?_
  rcases Bool.eq_false_or_eq_true (decide (((r.length:Nat):Int)>4096)) with h33|h33
  ·refine di 67 true h33 ?_
   have h33':((r.length:Nat):Int)>4096:=of_decide_eq_true h33
   exfalso;omega
  ·refine di 67 false h33 ?_
   have h33':¬ (((r.length:Nat):Int)>4096):=of_decide_eq_false h33
   refine Zj (Hl 4 5 3 hs31 (cH 5 (bE r.length:Nat) Hz)) ?_
   refine aF Tryz.call109 (oL r.length (by first|omega|(simp only [List.length_append,List.length_nil,aY,gb,<- he0,cd h0];omega)|(rw [<- he0,cd h0];omega)) hs31) ?_
   rintro v35 w36 ⟨rfl,hs34⟩
   refine⟨bw (n:=[.prop (Value.int .i64 (IntKind.i64.wrap (bE r.length:Nat))=Value.int .i64 (bE r.length:Nat)),.cell ⟨b1,3,none⟩ (.int .u16 (bE r.length:Nat))]) zk (aB (dD za za) (aG (hs34.cell 5 rfl zk) av)),?_⟩
   refine gY (Hg 8 (.cI (.bool false) (.gen [])) [.prop (Value.bool (((bE r.length:Nat):Int) != (bE r.length:Nat))=Value.bool false)] (aB zG av) Hz) ?_
   refine En (Lt (LF (Lk (Lt (Ls (Ls (La (Lt (Lb (Dz ?_))))))))))
   have hs37:St w0 (ah cc17 #[.slice az24 e0.length cz25,.bool false] 202::Sl ao18 co19 5 1 af (hf (r.length:Nat)++e0)::ah bk #[zP d 0,.int .i64 (a:Nat),.int .i64 (to:Nat),.int .u64 lb,.int .i64 (m:Nat),.bool false] 138::DK d D nk g::Sl ao5 co6 5 1 af ((cV r).take (1*108))::ah b1 (bY.cells (⟨1,((m:Nat)+1),0,(bE r.length:Nat)⟩:bY)) 208::L) w36:=(he0.symm.trans (jA r))▸hs34
   refine Zn [(9,.int .u16 1),(8,.int .i64 (r.length:Nat)),(6,.bool true),(7,.slice ao5 ((hf (r.length:Nat)++e0).length) co6),(5,zP b1 0),(4,.slice none 0 0),(0,zP bk 0)] ?_
   refine aE.cq (S':=[(9,.int .u16 1),(8,.int .i64 (r.length:Nat)),(6,.bool true),(7,.slice ao5 (((cV r).take (1*108)).length) co6),(5,zP b1 0),(4,.slice none 0 0),(0,zP bk 0)]) (by rw [he0.symm.trans (jA r)]) ?_
   have hs38:=(((((hs37.pl 4).pl 5).pl 5).pl 5).pl 5).pl 5
   have hs39:=hs38.dr 2
   refine aE.loop (T:=Nat×(Option Addr)×Nat) (λgg=>[(0,zP bk 0),(5,zP b1 0),(7,.slice gg.2.1 (((cV r).take (gg.1*108)).length) gg.2.2),(8,.int .i64 (r.length:Nat)),(9,.int .u16 (gg.1:Nat))]) (λgg w=>(1<=gg.1/\gg.1<=bE r.length)/\St w0 (ah bk #[zP d 0,.int .i64 (a:Nat),.int .i64 (to:Nat),.int .u64 lb,.int .i64 (m:Nat),.bool false] 138::DK d D nk g::ah b1 (bY.cells (⟨1,((m:Nat)+1),0,(bE r.length:Nat)⟩:bY)) 208::Sl gg.2.1 gg.2.2 5 1 af ((cV r).take (gg.1*108))::L) w) (λgg=>bE r.length-gg.1) (1,ao5,co6) [0,5,7,8,9] zk ⟨⟨za,za⟩,hs39⟩ ?_
   rintro⟨k,a1,c1⟩ w40 ⟨hp0,hs41⟩
   have hp:1<=k/\k<=bE r.length:=hp0
   have hs42:St w0 (ah bk #[zP d 0,.int .i64 (a:Nat),.int .i64 (to:Nat),.int .u64 lb,.int .i64 (m:Nat),.bool false] 138::DK d D nk g::ah b1 (bY.cells (⟨1,((m:Nat)+1),0,(bE r.length:Nat)⟩:bY)) 208::Sl a1 c1 5 1 af ((cV r).take (k*108))::L) w40:=hs41
   refine Zn [(0,zP bk 0),(5,zP b1 0),(7,.slice a1 (((cV r).take (k*108)).length) c1),(8,.int .i64 (r.length:Nat)),(9,.int .u16 (k:Nat))] ?_
   refine Zs (Zs (?_))
   refine bj (Hl 2 2 3 hs42 Hz) ?_
   refine Zt (?_)
   refine Zi (((k:Nat):Int)<(bE r.length:Nat)) (λh43'=>?_) (λh43'=>?_)
   ·have hk:k<bE r.length:=za
    refine Zk (Zt (Zs (Zb (Zs (?_)))))
    refine bL [8,13,14] (Hl 4 0 1 hs42 (cH 6 (k:Nat) (cH 7 ((a:Nat)+(k:Nat)) Hz))) ?_
    refine aF Tryz.call135 (mh (a:Nat) to lb (m:Nat) (a+k) 1 ((m:Nat)+1) k (bE r.length) (chunk r k) zc zc (hrec k hk) (cd hk) (mi hrb _) za za zc zc hs42) ?_
    rintro v47 w48 ⟨ao44,co45,rfl,hs46⟩
    refine Lo (Lu (Dz ?_))
    refine ar.alloc rfl rfl zk (z:=.agg (bY.cells tC)) zk hs46 (cs:=bY.cells tC) zk ?_
    intro b49 w50 hs51
    refine Lo (Dz ?_)
    refine Zv (b:=b49) (off:=0) (v:=.agg (bY.cells (⟨1,((m:Nat)+1),(k:Nat),(bE r.length:Nat)⟩:bY))) (ti:=Tryz.t208) zk hs51 0 (cs':=bY.cells (⟨1,((m:Nat)+1),(k:Nat),(bE r.length:Nat)⟩:bY)) ?_
    intro w52 hs53
    refine Lo (aL (Lt (Ls (Ls (Dz ?_)))))
    refine bL [8,9] (Hl 1 4 0 hs53 (Hl 3 4 1 hs53 (Hl 6 4 3 hs53 Hz))) ?_
    refine ar.alloc rfl rfl zk (z:=.agg (bY.cells tC)) zk hs53 (cs:=bY.cells tC) zk ?_
    intro b54 w55 hs56
    refine Lo (Dz ?_)
    refine Zv (b:=b54) (off:=0) (v:=.agg (bY.cells (⟨1,((m:Nat)+1),(k:Nat),(bE r.length:Nat)⟩:bY))) (ti:=Tryz.t208) zk hs56 0 (cs':=bY.cells (⟨1,((m:Nat)+1),(k:Nat),(bE r.length:Nat)⟩:bY)) ?_
    intro w57 hs58
    refine Lo (Ld (Lt (Ls (Lg [] (Dz ?_)))))
    refine Zp 0 5 [(3,.agg (bY.cells (⟨1,((m:Nat)+1),(k:Nat),(bE r.length:Nat)⟩:bY))),(4,.agg (bY.cells (⟨1,((m:Nat)+1),(k:Nat),(bE r.length:Nat)⟩:bY)))] [(3,[.prop (Array.size (bY.cells (⟨1,((m:Nat)+1),(k:Nat),(bE r.length:Nat)⟩:bY))=4),.cells ⟨b49,0,none⟩ (bY.cells (⟨1,((m:Nat)+1),(k:Nat),(bE r.length:Nat)⟩:bY))]),(4,[.prop (Array.size (bY.cells (⟨1,((m:Nat)+1),(k:Nat),(bE r.length:Nat)⟩:bY))=4),.cells ⟨b54,0,none⟩ (bY.cells (⟨1,((m:Nat)+1),(k:Nat),(bE r.length:Nat)⟩:bY))])] (ak (aB zk (dq (hs58.cells 1 0 rfl zk) av)) (ak (aB zk (dq (hs58.cells 0 0 rfl zk) av)) cW)) ?_
    refine ar.jY rfl zk (b:=false) (t:=208) (xs:=bY.cells (⟨1,((m:Nat)+1),(k:Nat),(bE r.length:Nat)⟩:bY)) (ys:=bY.cells (⟨1,((m:Nat)+1),(k:Nat),(bE r.length:Nat)⟩:bY)) (m:=2) zk zk zf zk (r:=!(decide ((⟨1,((m:Nat)+1),(k:Nat),(bE r.length:Nat)⟩:bY)=(⟨1,((m:Nat)+1),(k:Nat),(bE r.length:Nat)⟩:bY)))) (z9  (EB (⟨1,((m:Nat)+1),(k:Nat),(bE r.length:Nat)⟩:bY) (⟨1,((m:Nat)+1),(k:Nat),(bE r.length:Nat)⟩:bY))) ?_
    refine En (aL (Lt (Dz ?_)))
    refine cS (t:=!(decide ((⟨1,((m:Nat)+1),(k:Nat),(bE r.length:Nat)⟩:bY)=(⟨1,((m:Nat)+1),(k:Nat),(bE r.length:Nat)⟩:bY)))) (λh59=>?_) (λh59=>?_)
    ·have h59n:(decide ((⟨1,((m:Nat)+1),(k:Nat),(bE r.length:Nat)⟩:bY)=(⟨1,((m:Nat)+1),(k:Nat),(bE r.length:Nat)⟩:bY)))=false:=kL h59
     have h59n':¬ ((⟨1,((m:Nat)+1),(k:Nat),(bE r.length:Nat)⟩:bY)=(⟨1,((m:Nat)+1),(k:Nat),(bE r.length:Nat)⟩:bY)):=of_decide_eq_false h59n
     exfalso;simp at h59
    ·have h59n:(decide ((⟨1,((m:Nat)+1),(k:Nat),(bE r.length:Nat)⟩:bY)=(⟨1,((m:Nat)+1),(k:Nat),(bE r.length:Nat)⟩:bY)))=true:=km h59
     have h59n':(⟨1,((m:Nat)+1),(k:Nat),(bE r.length:Nat)⟩:bY)=(⟨1,((m:Nat)+1),(k:Nat),(bE r.length:Nat)⟩:bY):=of_decide_eq_true h59n
     refine En (Lk (Lt (Lg [2] (Lu (Dz ?_)))))
     have hs62:=hs58.pl 6
     refine ar.append rfl zk aJ aj (ad:=a1) (c:=c1) (xs:=(cV r).take (k*108)) (ys:=chunk r k) (adx:=ao44) (cx:=co45) (0:Int) zk hs62 (hs62.rows 5 rfl aj.size (0:Int)) (hs62.eU 5 rfl) (by simp only [List.length_take,eP,cd hk];omega) (by simp only [List.length_take,eP,cd hk];omega) ?_
     intro ad63 c64 w60 hs61
     refine Lo (aL (Lm (Lt (Dz ?_))))
     refine bj (Hg 1 (.cI (.int .u16 ((k:Nat)+1)) (.gen [])) [.prop (Value.int .u16 (IntKind.u16.wrap ((k:Nat)+1))=Value.int .u16 ((k:Nat)+1))] (aB (mq za za) av) Hz) ?_
     have hs65:=((((((hs61.pl 0).pl 6).pl 5).pl 5).pl 6).pl 6).pl 6
     have hs66:=hs65.dr 3
     have hs67:St w0 (ah bk #[zP d 0,.int .i64 (a:Nat),.int .i64 (to:Nat),.int .u64 lb,.int .i64 (m:Nat),.bool false] 138::DK d D nk g::ah b1 (bY.cells (⟨1,((m:Nat)+1),0,(bE r.length:Nat)⟩:bY)) 208::Sl ad63 c64 5 1 af ((cV r).take ((k+1)*108))::L) w60:=(show((cV r).take (k*108))++(chunk r k)=(cV r).take ((k+1)*108) from iy za)▸hs66
     refine aw.pick [9,7,0,5,8] (S':=[(9,.int .u16 ((k:Nat)+1)),(7,.slice ad63 ((((cV r).take (k*108))++(chunk r k)).length) c64),(0,zP bk 0),(5,zP b1 0),(8,.int .i64 (r.length:Nat))]) zk ?_
     refine aw.cq (S':=[(9,.int .u16 ((k:Nat)+1)),(7,.slice ad63 (((cV r).take ((k+1)*108)).length) c64),(0,zP bk 0),(5,zP b1 0),(8,.int .i64 (r.length:Nat))]) (by rw [(show((cV r).take (k*108))++(chunk r k)=(cV r).take ((k+1)*108) from iy za)]) ?_
     exact aw.back (k+1,ad63,c64) [0,5,7,8,9] zk (by show bE r.length-(k+1)<bE r.length-k;omega) ⟨za,hs67⟩
   ·have hke:k=bE r.length:=za
    subst hke
    have hs68:St w0 (ah bk #[zP d 0,.int .i64 (a:Nat),.int .i64 (to:Nat),.int .u64 lb,.int .i64 (m:Nat),.bool false] 138::DK d D nk g::ah b1 (bY.cells (⟨1,((m:Nat)+1),0,(bE r.length:Nat)⟩:bY)) 208::Sl a1 c1 5 1 af (hf (r.length:Nat)++(r++eu r))::L) w40:=(oM r)▸hs42
    refine Zn [(79,.bool (decide ((((bE r.length):Nat):Int)<(bE r.length:Nat)))),(0,zP bk 0),(5,zP b1 0),(7,.slice a1 (((cV r).take ((bE r.length)*108)).length) c1),(8,.int .i64 (r.length:Nat)),(9,.int .u16 (bE r.length:Nat))] ?_
    refine aE.cq (S':=[(79,.bool (decide ((((bE r.length):Nat):Int)<(bE r.length:Nat)))),(0,zP bk 0),(5,zP b1 0),(7,.slice a1 ((hf (r.length:Nat)++(r++eu r)).length) c1),(8,.int .i64 (r.length:Nat)),(9,.int .u16 (bE r.length:Nat))]) (by rw [oM r]) ?_
    refine En (Lx (gv (gw (Lh (Lt (Ls (Lg [1] (Lu (Dz ?_)))))))))
    refine aF (f:=54) (args:=#[.slice a1 ((hf (r.length:Nat)++(r++eu r)).length) c1]) Tryz.call54 (df (hf (r.length:Nat)++(r++eu r)) (by first|omega|(simp only [List.length_append,List.length_nil,aY,gb,<- he0,cd h0];omega)|(rw [<- he0,cd h0];omega)) (dQ hs68 3 rfl) (λw h=>h.rows 3 rfl aj.size _) hs68) ?_
    rintro v73 w74 ⟨cc69,ao70,co71,rfl,hs72⟩
    have hq75:aX (Sl ao70 co71 5 1 af (hf (r.length:Nat)++(r++eu r))) ao70 (hf (r.length:Nat)++(r++eu r)) co71:=aX.new hs72 (j:=1) rfl (fE.app (oI _) (fE.app hrb (tE r))) (by simp only [List.length_append,aY,gb];omega)
    refine Lo (aL (Lt (Ls (Lg [1] (Lu (Dz ?_))))))
    refine aF Tryz.call130 (fe (Sl ao70 co71 5 1 af (hf (r.length:Nat)++(r++eu r))) (hf (r.length:Nat)++(r++eu r)) (r++eu r) r.length zp zc (λw h=>h.at_ 0 rfl) hq75 hs72) ?_
    rintro v80 w81 ⟨az76,cz77,rfl,hq278,hs79⟩
    refine Lo (Ld (Lt (Ls (Lg [2] (Lu (Dz ?_))))))
    refine aF Tryz.call56 (eT (Sl ao70 co71 5 1 af (hf (r.length:Nat)++(r++eu r))) (r++eu r) r.length r (eu r) zp rfl (λw h=>h.at_ 0 rfl) hq278 hs79) ?_
    rintro v88 w89 ⟨ao82,co83,az84,cz85,rfl,hq286,hs87⟩
    refine Lo (aL (Lt (Ls (Ls (Lg [2,3] (Lu (Dz ?_)))))))
    have hs90:=hs87.pl 1
    refine aF (f:=57) (args:=#[zP cc69 0]) Tryz.call57 (gx (eu r) false hs90) ?_
    rintro v92 w93 ⟨rfl,hs91⟩
    refine Lo (Dz ?_)
    refine aF Tryz.call56 (eT (Sl ao70 co71 5 1 af (hf (r.length:Nat)++(r++eu r))) (eu r) ((eu r).length) (eu r) ([]:List Int) zp zc (λw h=>h.at_ 1 rfl) hq286 hs91) ?_
    rintro v100 w101 ⟨ao94,co95,az96,cz97,rfl,hq298,hs99⟩
    refine Lo (aL (Lt (Lb (Dz ?_))))
    have hs102:=(((((((hs99.pl 0).pl 2).pl 6).pl 6).pl 6).pl 7).pl 7).pl 7
    have hs103:=hs102.dr 3
    refine aE.loop (T:=Nat×(Option Addr)) (λgg=>[(4,.slice ao82 r.length co83),(5,zP b1 0),(124,.slice gg.2 ((eu r).length) co95),(125,.int .i64 ((eu r).length:Nat)),(126,.int .i64 (gg.1:Nat))]) (λgg w=>True/\St w0 (ah bk #[zP d 0,.int .i64 (a:Nat),.int .i64 (to:Nat),.int .u64 lb,.int .i64 (m:Nat),.bool false] 138::DK d D nk g::ah b1 (bY.cells (⟨1,((m:Nat)+1),0,(bE r.length:Nat)⟩:bY)) 208::Sl ao82 co83 5 1 af r::Sl gg.2 co95 5 1 af (eu r)::L) w) (λgg=>(eu r).length-gg.1) (0,ao94) [4,5,124,125,126] zk ⟨trivial,hs103⟩ ?_
    rintro⟨j,az1⟩ w104 ⟨hp107,hs105⟩
    have hp108:True:=hp107
    have hs106:St w0 (ah bk #[zP d 0,.int .i64 (a:Nat),.int .i64 (to:Nat),.int .u64 lb,.int .i64 (m:Nat),.bool false] 138::DK d D nk g::ah b1 (bY.cells (⟨1,((m:Nat)+1),0,(bE r.length:Nat)⟩:bY)) 208::Sl ao82 co83 5 1 af r::Sl az1 co95 5 1 af (eu r)::L) w104:=hs105
    refine Zn [(4,.slice ao82 r.length co83),(5,zP b1 0),(124,.slice az1 ((eu r).length) co95),(125,.int .i64 ((eu r).length:Nat)),(126,.int .i64 (j:Nat))] ?_
    refine En (Ls (La (Lt (Ls (Dz ?_)))))
    refine Zi (((j:Nat):Int)<((eu r).length:Nat)) (λh109'=>?_) (λh109'=>?_)
    ·obtain⟨ab110,rfl⟩:=Sl.isSome (hs106.at_ 4 rfl) za
     refine Zk (Zt (Zs (Zb (Zs (?_)))))
     refine bj (Hx 0 ((j:Nat):Int) (((eu r).length:Nat):Int) ab110 0 1 (Hg 1 (.gen [.int .u8 ((eu r).getD j 0)]) [.cell ⟨ab110,0+(j*1),none⟩ (.int .u8 ((eu r).getD j 0))] (aG (ag.cC (hs106.rows 4 rfl aj.size (0:Int)) (k:=j) zd (j:=0) zf zk) av) Hz)) ?_
     refine En (Lt (Ls (La (Lt (Dz ?_)))))
     refine cS (t:=(((eu r).getD j 0):Int) != 0) (λh112=>?_) (λh112=>?_)
     ·have h112':¬ ((((eu r).getD j 0):Int)=0):=jb h112
      exfalso;have h9:=C2 r j;omega
     ·have h112':(((eu r).getD j 0):Int)=0:=iF h112
      refine Zk (Zm (Zt (?_)))
      refine bj (cH 0 ((j:Nat)+1) Hz) ?_
      exact aw.back (j+1,some ⟨ab110,0,none⟩) [4,5,124,125,126] zk (by show(eu r).length-(j+1)<(eu r).length-j;omega) ⟨trivial,hs106⟩
    ·refine Zx (aw.da (aw.dc (aw.jR (Zt (Zs (?_))))))
     refine aE.aV [0,0,1,7,15] (.rd 0 (.rd 1 (.rd 2 (.ef 3 (.rd 4 .done))))) zk zk ai zk hs106 ?_
     intro w113 hs114 hw115
     refine Zj (du 1 2 0 4 (bY.cells (⟨1,((m:Nat)+1),0,(bE r.length:Nat)⟩:bY)) hs114 Hz) ?_
     refine Zv (b:=b1) (off:=0) (v:=.agg (bY.cells (⟨1,((m:Nat)+1),0,(bE r.length:Nat)⟩:bY))) (ti:=Tryz.t208) zk hs114 2 (cs':=bY.cells (⟨1,((m:Nat)+1),0,(bE r.length:Nat)⟩:bY)) ?_
     intro w116 hs117
     refine Lo (aL (Lt (Le (Dz ?_))))
     refine aw.done (.inl rfl) (v:=.tuple #[.slice ao82 r.length co83,.agg (bY.cells (⟨1,((m:Nat)+1),0,(bE r.length:Nat)⟩:bY)),.bool true]) (λa hf=>gG rfl (RV.tmp zk) (RV.agg zk (ti:=Tryz.t208) zk zk (vs:=bY.cells (⟨1,((m:Nat)+1),0,(bE r.length:Nat)⟩:bY)) zk (hs117.cells 2 0 rfl zk)) (RV.tmp zk) a hf) ?_
     have hs118:=((((hs117.pl 3).pl 2).pl 2).pl 4).pl 4
     have hs119:=hs118.dr 2
     exact⟨ao82,co83,rfl,hs119⟩
theorem DS:fX=fD (kj 0 0 0 0 (List.replicate 108 (0:Int))):=zk
theorem tF {w0 w:World}{L:List aI}{bk:Nat}{d:Nat}{D:Nat->aC}{nk:Nat}{g:et}(a:Nat) (to:Nat) (lb:Int) (m:Nat) (hD:D a=fX) (hto:a<to) (hto2:to<=32768) (hm:m<=60000) (hs:St w0 (ah bk #[zP d 0,.int .i64 (a:Nat),.int .i64 (to:Nat),.int .u64 lb,.int .i64 (m:Nat),.bool false] 138::DK d D nk g::L) w):Calls Tryz.prog 100 #[zP bk 0,.int .u64 1] w (aZ λrv w'=>rv=.tuple #[.slice none 0 0,.agg (bY.cells tC),.bool false]/\St w0 (ah bk #[zP d 0,.int .i64 (a:Nat),.int .i64 (to:Nat),.int .u64 lb,.int .i64 (m:Nat),.bool false] 138::DK d D nk g::L) w'):=by
 refine bp Tryz.func100 Tryz.ntmps100 ?_
 refine En (Ls (Lg [1] (Lu (Dz ?_))))
 refine ar.alloc rfl rfl zk (z:=.agg (bY.cells tC)) zk hs (cs:=bY.cells tC) zk ?_
 intro b1 w2 hs3
 refine Lo (aL (Lt (Ls (Dz ?_))))
 refine bL [5,10] (Hl 4 1 1 hs3 Hz) ?_
 have hs4:=(hs3.pl 2).pl 2
 refine aF Tryz.call135 (mh (a:Nat) to lb (m:Nat) a 0 0 0 0 (List.replicate 108 (0:Int)) za za (hD.trans DS) (List.length_replicate ..) (λz hz=>by rw [(List.mem_replicate.1 hz).2];decide) za za za za hs4) ?_
 rintro v8 w9 ⟨ao5,co6,rfl,hs7⟩
 refine Lo (Lu (Dz ?_))
 refine Zv (b:=b1) (off:=0) (v:=.agg (bY.cells (⟨0,0,0,0⟩:bY))) (ti:=Tryz.t208) zk hs7 3 (cs':=bY.cells (⟨0,0,0,0⟩:bY)) ?_
 intro w10 hs11
 refine Lo (aL (Lt (Ls (Ls (Dz ?_)))))
 refine aE.join (T:=Unit) (E:=λ_=>[(59,.bool true),(6,.bool true),(7,.slice ao5 ((List.replicate 108 (0:Int)).length) co6),(5,zP b1 0),(4,.slice none 0 0),(0,zP bk 0)]) (F:=λ_ w=>St w0 (ah bk #[zP d 0,.int .i64 (a:Nat),.int .i64 (to:Nat),.int .u64 lb,.int .i64 (m:Nat),.bool false] 138::DK d D nk g::Sl ao5 co6 5 1 af (List.replicate 108 (0:Int))::ah b1 (bY.cells (⟨0,0,0,0⟩:bY)) 208::L) w) ?_ ?_
 ·refine aE.aV [0,1,3,7,15,7,39,103,231,487,999,2047,4095,8191,16383,32767,65535,131071,262143,524287,1048575,524287,4194303,8388607,16777215,33554431,67108863,33554431,167772159,436207615,973078527,2147483647,4294967295] (.rd 0 (.rd 1 (.rd 2 (.rd 3 (.rd 4 (.rd 5 (.rd 6 (.rd 7 (.rd 8 (.rd 9 (.rd 10 (.rd 11 (.rd 12 (.rd 13 (.rd 14 (.rd 15 (.rd 16 (.rd 17 (.rd 18 (.rd 19 (.rd 20 (.rd 21 (.rd 22 (.rd 23 (.rd 24 (.rd 25 (.rd 26 (.rd 27 (.rd 28 (.rd 29 (.rd 30 (.rd 31 (.rd 32 .done))))))))))))))))))))))))))))))))) zk zk ai zk hs11 ?_
  intro w12 hs13 hw14
  refine Zp 0 14 [(4,.gen [.int .u64 0]),(8,.gen [.int .i64 (m:Nat)]),(9,.cI (.int .i64 ((m:Nat)+1)) (.gen [])),(10,.cI (.int .u64 ((m:Nat)+1)) (.gen []))] [(4,[.cell ⟨b1,1,none⟩ (.int .u64 0)]),(8,[.cell ⟨bk,4,none⟩ (.int .i64 (m:Nat))]),(9,[.prop (Value.int .i64 (IntKind.i64.wrap ((m:Nat)+1))=Value.int .i64 ((m:Nat)+1))]),(10,[.prop (Value.int .u64 (IntKind.u64.wrap ((m:Nat)+1))=Value.int .u64 ((m:Nat)+1))])] (ak (aG (hs13.cell 3 rfl zk) av) (ak (aG (hs13.cell 0 rfl zk) av) (ak (aB (dD za za) av) (ak (aB (nB za za) av) cW)))) ?_
  rcases Bool.eq_false_or_eq_true ((0:Int) != ((m:Nat)+1)) with h15|h15
  ·refine di 40 true h15 ?_
   have h15':¬ ((0:Int)=((m:Nat)+1)):=jb h15
   refine En (aL (Dz ?_))
   refine aw.pick [59,6,7,5,4,0] (S':=[(59,.bool true),(6,.bool true),(7,.slice ao5 ((List.replicate 108 (0:Int)).length) co6),(5,zP b1 0),(4,.slice none 0 0),(0,zP bk 0)]) zk ?_
   exact aw.bD () (by first|rfl|(simp only [h15,Bool.not_true,Bool.not_false,Bool.true_or,Bool.false_or,Bool.true_and,Bool.false_and,Bool.or_true,Bool.or_false,Bool.and_true,Bool.and_false];done)|(simp [h15];done)) hs13
  ·refine di 40 false h15 ?_
   have h15':(0:Int)=((m:Nat)+1):=iF h15
   exfalso;omega
 intro _ w16 hs17
 refine En (Lt (LT (Ls (Dz ?_))))
 refine aE.aV [0,0,3,7] (.rd 0 (.rd 1 (.ef 2 (.rd 3 .done)))) zk zk ai zk hs17 ?_
 intro w18 hs19 hw20
 refine Zj (du 0 3 0 4 (bY.cells (⟨0,0,0,0⟩:bY)) hs19 Hz) ?_
 refine Zv (b:=b1) (off:=0) (v:=.agg (bY.cells (⟨0,0,0,0⟩:bY))) (ti:=Tryz.t208) zk hs19 3 (cs':=bY.cells (⟨0,0,0,0⟩:bY)) ?_
 intro w21 hs22
 refine Lo (aL (Lt (Le (Ly (Dz ?_)))))
 refine aw.done (.inl rfl) (v:=.tuple #[.slice none 0 0,.agg (bY.cells (⟨0,0,0,0⟩:bY)),.bool false]) (λa hf=>gG rfl (RV.tmp zk) (RV.agg zk (ti:=Tryz.t208) zk zk (vs:=bY.cells (⟨0,0,0,0⟩:bY)) zk (hs22.cells 3 0 rfl zk)) (RV.tmp zk) a hf) ?_
 have hs23:=(((hs22.pl 1).pl 1).pl 3).pl 3
 have hs24:=hs23.dr 2
 exact⟨rfl,hs24⟩
structure cM where
 pa:Option Addr
 pc:Nat
 pl:List Int
def cM.cells (x:cM):Array Value:=#[.slice x.pa x.pl.length x.pc]
abbrev qE:cM:=⟨none,0,[]⟩
theorem B3:dE cM.cells 1:=⟨λ_=>rfl,λ_=>rfl⟩
theorem DT:ff Tryz.prog 67 85 1 24:=⟨zk,⟨Tryz.t85,.slice none 0 0,zk,zk,zk,zk,zk⟩,zf⟩
def EC:List cM->aI
 | []=>St.nothing
 | m::l=>aI.and (Sl m.pa m.pc 5 1 af m.pl) (EC l)
def QB (l:List cM):aI:=EC l.reverse
theorem C3 (l:List cM) (m:cM):QB (l++[m])=aI.and (Sl m.pa m.pc 5 1 af m.pl) (QB l):=by
 unfold QB
 rw [List.reverse_append]
 rfl
theorem tG {w:World}:∀ {l:List cM},(EC l).holds w->∀ m∈l,ag w m.pa m.pl.length 1 (λj=>af (m.pl.getD j 0))/\se m.pa m.pc
 | [],_,m,hm=>by cases hm
 | a::l,h,m,hm=>by
  rcases List.mem_cons.1 hm with rfl|hm
  ·exact⟨Sl.rows aj.size h.1 0,by
    obtain⟨_,h2⟩:=h.1
    rcases h2 with⟨h2,-⟩|⟨g,cap,cur,h2,-⟩
    ·simp only [Value.slice.injEq] at h2;exact .inr ⟨h2.1,h2.2.2⟩
    ·simp only [Value.slice.injEq] at h2;exact .inl ⟨_,_,h2.1⟩⟩
  ·exact tG h.2.1 m hm
theorem B4 {w:World}{l:List cM}(h:(QB l).holds w){k:Nat}(hk:k<l.length):ag w (l.getD k qE).pa (l.getD k qE).pl.length 1 (λj=>af ((l.getD k qE).pl.getD j 0))/\se (l.getD k qE).pa (l.getD k qE).pc :=
 tG h _ (List.mem_reverse.2 (by rw [List.getD_eq_getElem?_getD,List.getElem?_eq_getElem hk];exact List.getElem_mem hk))
def cG:Nat->List (List Int)->Nat
 | a,[]=>a
 | a,r::rs=>cG (a+bE r.length) rs
def eQ (D:Nat->aC):Nat->Nat->List (List Int)->Prop
 | a,_,[]=>∀ x,a<=x->D x=fX
 | a,m,r::rs=>(r.length<=4096/\(∀ z∈r,0<=z/\z<256)/\lD D a ((m:Nat)+1) r)/\eQ D (a+bE r.length) (m+1) rs
theorem nf:∀ (rs:List (List Int)) (a:Nat),a<=cG a rs
 | [],a=>Nat.le_refl _
 | r::rs,a=>Nat.le_trans (Nat.le_add_right _ _) (nf rs _)
theorem oN:∀ (rs:List (List Int)) (a:Nat) (r:List Int),cG a (rs++[r])=cG a rs+bE r.length
 | [],a,r=>rfl
 | q::rs,a,r=>oN rs _ r
theorem eQ.congr {D D':Nat->aC}:∀ {rs:List (List Int)}{a m:Nat},eQ D a m rs->(∀ x,a<=x->D' x=D x)->eQ D' a m rs
 | [],a,m,h,he=>λx hx=>(he x hx).trans (h x hx)
 | r::rs,a,m,⟨⟨h1,h2,h3⟩,h4⟩,he=>⟨⟨h1,h2,λk hk=>(he _ za).trans (h3 k hk)⟩,h4.congr λx hx=>he x za⟩
theorem eQ.app {D D':Nat->aC}{r:List Int}(hl:r.length<=4096) (hb:∀ z∈r,0<=z/\z<256):∀ {rs:List (List Int)}{a m:Nat},eQ D a m rs->lD D' (cG a rs) (((m+rs.length:Nat):Int)+1) r->(∀ x,(x<cG a rs\/cG a rs+bE r.length<=x)->D' x=D x)->eQ D' a m (rs++[r])
 | [],a,m,h,hr,he=>⟨⟨hl,hb,hr⟩,λx hx=>(he x (.inr hx)).trans (h x (Nat.le_trans (Nat.le_add_right _ _) hx))⟩
 | q::rs,a,m,⟨⟨h1,h2,h3⟩,h4⟩,hr,he=>by
  refine⟨⟨h1,h2,λk hk=>(he _ (.inl ?_)).trans (h3 k hk)⟩,h4.app hl hb ?_ he⟩
  ·have:=nf rs (a+bE q.length)
   show a+k<cG (a+bE q.length) rs
   omega
  ·rw [show m+1+rs.length=m+(q::rs).length by simp only [List.length_cons];omega]
   exact hr
theorem tH {w0 w:World}{L:List aI}{bk:Nat}{d:Nat}{D:Nat->aC}{nk:Nat}{g:et}(a:Nat) (to:Nat) (lb:Int) (m:Nat) (rs:List (List Int)) (hbk:eQ D a m rs) (hlb:(1<=lb/\lb<18446744073709551616)) (hrs:rs.length<=1000) (hm:m+rs.length<=60000) (hto:cG a rs<to) (hto2:to<=32768) (hs:St w0 (ah bk #[zP d 0,.int .i64 (a:Nat),.int .i64 (to:Nat),.int .u64 lb,.int .i64 (m:Nat),.bool false] 138::DK d D nk g::L) w):Calls Tryz.prog 62 #[zP bk 0] w (aZ λrv w'=>∃ (ll:List cM) (ra:Option Addr) (rc:Nat),rv=.slice ra ll.length rc/\ll.map cM.pl=rs/\St w0 (ah bk #[zP d 0,.int .i64 (cG a rs:Nat),.int .i64 (to:Nat),.int .u64 lb,.int .i64 (m+rs.length:Nat),.bool false] 138::DK d D nk g::Sl ra rc 85 1 cM.cells ll::QB ll::L) w'):=by
 refine bp Tryz.func62 Tryz.ntmps62 ?_
 refine En (Ls (La (Lt (Ls (La (Lt (Lb (Dz ?_))))))))
 have hs1:St w0 (Sl none 0 85 1 cM.cells ([]:List cM)::ah bk #[zP d 0,.int .i64 (a:Nat),.int .i64 (to:Nat),.int .u64 lb,.int .i64 (m:Nat),.bool false] 138::DK d D nk g::L) w:=St.bW hs 85 1 cM.cells
 have hs2:=St.iE hs1
 have hs3:=(((hs2.pl 0).pl 1).pl 3).pl 3
 have hs4:St w0 (ah bk #[zP d 0,.int .i64 (a:Nat),.int .i64 (to:Nat),.int .u64 lb,.int .i64 (m:Nat),.bool false] 138::DK d D nk g::Sl none 0 85 1 cM.cells ([]:List cM)::QB ([]:List cM)::L) w:=hs3
 refine Zn [(3,.int .u64 1),(2,.slice none 0 0),(0,zP bk 0)] ?_
 refine aE.cq (S':=[(3,.int .u64 1),(2,.slice none (([]:List cM).length) 0),(0,zP bk 0)]) (by simp only [List.length_nil]) ?_
 refine aE.loop (T:=(List cM)×(Option Addr)×Nat×(List (List Int))×Nat×Nat) (λgg=>[(0,zP bk 0),(2,.slice gg.2.1 gg.1.length gg.2.2.1),(3,.int .u64 1)]) (λgg w=>((gg.1.map cM.pl++gg.2.2.2.1=rs)/\eQ D gg.2.2.2.2.1 gg.2.2.2.2.2 gg.2.2.2.1/\cG gg.2.2.2.2.1 gg.2.2.2.1=cG a rs/\(gg.2.2.2.2.2+gg.2.2.2.1.length=m+rs.length/\gg.1.length+gg.2.2.2.1.length=rs.length))/\St w0 (ah bk #[zP d 0,.int .i64 (gg.2.2.2.2.1:Nat),.int .i64 (to:Nat),.int .u64 lb,.int .i64 (gg.2.2.2.2.2:Nat),.bool false] 138::DK d D nk g::Sl gg.2.1 gg.2.2.1 85 1 cM.cells gg.1::QB gg.1::L) w) (λgg=>gg.2.2.2.1.length) ([],none,0,rs,a,m) [0,2,3] zk ⟨⟨rfl,hbk,rfl,rfl,by simp⟩,hs4⟩ ?_
 rintro⟨ll,ra,rc,qq,a1,m1⟩ w5 ⟨hp0,hs6⟩
 have hp:(ll.map cM.pl++qq=rs)/\eQ D a1 m1 qq/\cG a1 qq=cG a rs/\(m1+qq.length=m+rs.length/\ll.length+qq.length=rs.length):=hp0
 have hs7:St w0 (ah bk #[zP d 0,.int .i64 (a1:Nat),.int .i64 (to:Nat),.int .u64 lb,.int .i64 (m1:Nat),.bool false] 138::DK d D nk g::Sl ra rc 85 1 cM.cells ll::QB ll::L) w5:=hs6
 refine Zn [(0,zP bk 0),(2,.slice ra ll.length rc),(3,.int .u64 1)] ?_
 refine Zb (Zs (?_))
 obtain⟨hq1,hq2,hq3,hq4⟩:=hp
 rcases qq with _|⟨r,qs⟩
 ·have hD:D a1=fX:=hq2 a1 (Nat.le_refl _)
  have hlt:a1<to:=by have:cG a1 []=a1:=rfl;omega
  refine En (Lg [2,7,9] (Lu (Dz ?_)))
  refine aF Tryz.call100 (tF a1 to lb m1 zD za za za hs7) ?_
  rintro v9 w10 ⟨rfl,hs8⟩
  refine Lo (Lu (Dz ?_))
  refine ar.alloc rfl rfl zk (z:=.agg (bY.cells tC)) zk hs8 (cs:=bY.cells tC) zk ?_
  intro b11 w12 hs13
  refine Lo (Lu (Dz ?_))
  refine Zv (b:=b11) (off:=0) (v:=.agg (bY.cells tC)) (ti:=Tryz.t208) zk hs13 0 (cs':=bY.cells tC) ?_
  intro w14 hs15
  refine Lo (aL (Lt (Ls (Ls (La (Lt (LT (Ls (La (Lt (Le (Ly (Ll (uk (Ll (Dz ?_))))))))))))))))
  refine bg (v:=.slice ra ll.length rc) ?_
  have hs16:=hs15.dr 1
  have ha1:a1=cG a rs:=hq3
  have hm1:m1=m+rs.length:=by simpa using hq4.1
  have hs17:St w0 (ah bk #[zP d 0,.int .i64 (cG a rs:Nat),.int .i64 (to:Nat),.int .u64 lb,.int .i64 (m+rs.length:Nat),.bool false] 138::DK d D nk g::Sl ra rc 85 1 cM.cells ll::QB ll::L) w14:=by rw [<- ha1,<- hm1];exact hs16
  exact⟨ll,ra,rc,rfl,(by rw [<- hq1,List.append_nil]),hs17⟩
 ·obtain⟨⟨hrl,hrb,hrec⟩,hq5⟩:=hq2
  have hge:a1+bE r.length<=cG a1 (r::qs):=nf qs _
  have hql:qs.length+1<=1000:=by have:(r::qs).length=qs.length+1:=rfl;omega
  refine En (Lg [2,7,9] (Lu (Dz ?_)))
  refine aF Tryz.call100 (vQ a1 to lb m1 r za zD zD za za za za hs7) ?_
  rintro v21 w22 ⟨ao18,co19,rfl,hs20⟩
  refine Lo (Lu (Dz ?_))
  refine ar.alloc rfl rfl zk (z:=.agg (bY.cells tC)) zk hs20 (cs:=bY.cells tC) zk ?_
  intro b23 w24 hs25
  refine Lo (Lu (Dz ?_))
  refine Zv (b:=b23) (off:=0) (v:=.agg (bY.cells (⟨1,((m1:Nat)+1),0,(bE r.length:Nat)⟩:bY))) (ti:=Tryz.t208) zk hs25 0 (cs':=bY.cells (⟨1,((m1:Nat)+1),0,(bE r.length:Nat)⟩:bY)) ?_
  intro w26 hs27
  refine Lo (aL (Lt (Ls (Ls (La (Lt (LF (Lk (Lt (Ls (Lg [2,3] (Lu (Dz ?_)))))))))))))
  refine ar.aW rfl zk (t:=67) (e:=85) (n:=1) (ps:=[(0,.slice ao18 r.length co19)]) zk zk (ti:=Tryz.t85) (z:=.slice none 0 0) zk zk zf zf (cs:=#[.slice ao18 r.length co19]) zk hs27 ?_
  intro b28 w29 hs30 hz31
  have hs32:St w0 (Sl (some ⟨b28,0,none⟩) 1 85 1 cM.cells ([((⟨ao18,co19,r⟩:cM):cM)])::ah b23 (bY.cells (⟨1,((m1:Nat)+1),0,(bE r.length:Nat)⟩:bY)) 208::ah bk #[zP d 0,.int .i64 (a1:Nat),.int .i64 (to:Nat),.int .u64 lb,.int .i64 (m1:Nat),.bool false] 138::DK d D nk g::Sl ao18 co19 5 1 af r::Sl ra rc 85 1 cM.cells ll::QB ll::L) w29:=St.ey (l:=[((⟨ao18,co19,r⟩:cM):cM)]) (f:=cM.cells) hs30 hz31 B3.size zh zk
  refine Lo (Dz ?_)
  have hs35:=hs32.pl 5
  refine ar.append rfl zk DT B3 (ad:=ra) (c:=rc) (xs:=ll) (ys:=[((⟨ao18,co19,r⟩:cM):cM)]) (adx:=some ⟨b28,0,none⟩) (cx:=1) qE zk hs35 (hs35.rows 1 rfl B3.size qE) (λh=>nomatch h) zF zF ?_
  intro ad36 c37 w33 hs34
  refine Lo (aL (Lt (Ls (Dz ?_))))
  refine bj (Hl 1 2 0 hs34 Hz) ?_
  refine Zt (Zs (?_))
  refine aE.aV [0,1,3,7,0,16,48,127,255,511,1023] (.rd 0 (.rd 1 (.rd 2 (.rd 3 (.rd 4 (.rd 5 (.rd 6 (.rd 7 (.rd 8 (.rd 9 (.ef 10 .done))))))))))) zk zk ai zk hs34 ?_
  intro w38 hs39 hw40
  refine Zj (Hl 3 3 1 hs39 (Hl 5 2 3 hs39 (cH 6 (bE r.length:Nat) (cH 7 ((a1:Nat)+(bE r.length:Nat)) Hz)))) ?_
  refine Zv (b:=bk) (off:=1) (v:=.int .i64 ((a1:Nat)+(bE r.length:Nat))) (ti:=Tryz.t3) zk hs39 3 (cs':=#[zP d 0,.int .i64 ((a1:Nat)+(bE r.length:Nat)),.int .i64 (to:Nat),.int .u64 lb,.int .i64 (m1:Nat),.bool false]) ?_
  intro w41 hs42
  refine Lo (Ld (Lt (Dz ?_)))
  refine bL [7] (Hl 3 3 4 hs42 (cH 4 ((m1:Nat)+1) Hz)) ?_
  refine Zv (b:=bk) (off:=4) (v:=.int .i64 ((m1:Nat)+1)) (ti:=Tryz.t3) zk hs42 3 (cs':=#[zP d 0,.int .i64 ((a1:Nat)+(bE r.length:Nat)),.int .i64 (to:Nat),.int .u64 lb,.int .i64 ((m1:Nat)+1),.bool false]) ?_
  intro w43 hs44
  refine Lo (Ld (Lm (Dz ?_)))
  have hs45:=((((((hs44.pl 0).pl 4).pl 4).pl 6).pl 6).pl 6).pl 6
  have hs46:=hs45.dr 2
  have hs47:St w0 (QB (ll++[(⟨ao18,co19,r⟩:cM)])::ah bk #[zP d 0,.int .i64 ((a1:Nat)+(bE r.length:Nat)),.int .i64 (to:Nat),.int .u64 lb,.int .i64 ((m1:Nat)+1),.bool false] 138::DK d D nk g::Sl ad36 c37 85 1 cM.cells (ll++([((⟨ao18,co19,r⟩:cM):cM)]))::L) w43:=by rw [C3];exact St.join hs46
  have hs48:=(((hs47.pl 0).pl 3).pl 3).pl 3
  have hs49:St w0 (ah bk #[zP d 0,.int .i64 ((a1+bE r.length):Nat),.int .i64 (to:Nat),.int .u64 lb,.int .i64 ((m1+1):Nat),.bool false] 138::DK d D nk g::Sl ad36 c37 85 1 cM.cells (ll++[(⟨ao18,co19,r⟩:cM)])::QB (ll++[(⟨ao18,co19,r⟩:cM)])::L) w43:=hs48
  exact aw.back ((ll++[(⟨ao18,co19,r⟩:cM)]),ad36,c37,qs,(a1+bE r.length),(m1+1)) [0,2,3] zk (by show qs.length<(r::qs).length;simp only [List.length_cons];omega) ⟨⟨by rw [List.map_append,List.append_assoc];exact hq1,hq5,hq3,⟨by have:=hq4.1;simp only [List.length_cons] at this;show m1+1+qs.length=_;omega,by have:=hq4.2;simp only [List.length_cons] at this;show(ll++[_]).length+qs.length=_;simp only [List.length_append,List.length_cons,List.length_nil];omega⟩⟩,hs49⟩
theorem rL {w0 w:World}{L:List aI}{d:Nat}{D:Nat->aC}{nk:Nat}{g:et}(at_:Nat) (hat:at_+20<=32768) (hk:nk<800) (hs:St w0 (DK d D nk g::L) w):Calls Tryz.prog 14 #[zP d 0,.int .i64 (at_:Nat)] w (aZ λrv w'=>∃ (gd2:et),rv=.int .i64 0/\St w0 (DK d (fo (fo D (at_+(0*10)) 2 [] 10) (at_+(1*10)) 1 [] 10) 0 gd2::L) w'):=by
 refine bp Tryz.func14 Tryz.ntmps14 ?_
 refine En (Ls (La (Lt (Ls (Lg [2] (Lu (Dz ?_)))))))
 refine aF Tryz.call39 (lB at_ zc zc hs) ?_
 rintro v3 w4 ⟨gd1,rfl,hs2⟩
 refine Lo (aL (Lt (Le (Dz ?_))))
 refine bg (v:=.int .i64 0) ?_
 exact⟨gd1,rfl,hs2⟩
theorem qF {w0 w:World}{L:List aI}{d:Nat}(at_:Nat) (sz:Nat) (hz:21<=sz) (hz2:at_+sz<=32768) (hs:St w0 L w):Calls Tryz.prog 60 #[zP d 0,.int .i64 (at_:Nat),.int .i64 (sz:Nat)] w (aZ λrv w'=>rv=.int .i64 0/\St w0 L w'):=by
 refine bp Tryz.func60 Tryz.ntmps60 ?_
 refine En (Ls (La (Lt (Ls (Lb (Ls (La (Lt (LF (Ls (Ls (La (Lt (Dz ?_))))))))))))))
 refine Zi (((sz:Nat):Int)<21) (λh1'=>?_) (λh1'=>?_)
 ·exfalso;omega
 ·refine En (Ls (La (Lt (Dz ?_))))
  refine Zi (((sz:Nat):Int)>32768) (λh2'=>?_) (λh2'=>?_)
  ·exfalso;omega
  ·refine En (Ls (La (Lt (Dz ?_))))
   refine Zi (((at_:Nat):Int)<0) (λh3'=>?_) (λh3'=>?_)
   ·exfalso;omega
   ·refine bj (cH 2 (32768-(sz:Nat)) Hz) ?_
    refine Zt (?_)
    refine Zi (((at_:Nat):Int)>(32768-(sz:Nat))) (λh4'=>?_) (λh4'=>?_)
    ·exfalso;omega
    ·refine En (Lk (Lm (Lt (Ls (La (Lt (Le (Dz ?_))))))))
     refine bg (v:=.int .i64 0) ?_
     exact⟨rfl,hs⟩
def iz (lv:Nat):List Int:=if lv=0 then [] else wd (lv:Nat)
theorem xy {lv:Nat}(h:0<lv):iz lv=wd (lv:Nat):=if_neg za
theorem tI {w0 w:World}{L:List aI}{d:Nat}{D:Nat->aC}{nk:Nat}{g:et}(at_:Nat) (wq:Nat) (c:Int) (hat:at_+20<=32768) (hci:bz D at_ wq c ([]:List Int)) (hs:St w0 (DK d D nk g::L) w):Calls Tryz.prog 97 #[zP d 0,.int .i64 (at_:Nat)] w (aZ λrv w'=>∃ (cb:Nat) (ao:Option Addr) (co:Nat),rv=.tuple #[zP cb 0,.int .u64 0,.int .i64 0]/\St w0 (ah cb #[zP d 0,.int .i64 (at_:Nat),.slice ao (([]:List Int).length) co,.int .i64 (wq:Nat),.bool false] 197::DK d D nk g::L) w'):=by
 refine bp Tryz.func97 Tryz.ntmps97 ?_
 refine En (Ls (La (Lt (Ls (Ls (Lg [2] (Lu (Dz ?_))))))))
 refine aF Tryz.call52 (iM at_ wq c ([]:List Int) zc zD hs) ?_
 rintro v5 w6 ⟨cb1,ao2,co3,rfl,hs4⟩
 refine Lo (aL (Lt (Ls (La (Lt (LF (Lk (Lt (Ls (Ls (Lg [1] (Lu (Dz ?_)))))))))))))
 refine aF Tryz.call53 (jP at_ wq ([]:List Int) zb hs4) ?_
 rintro v10 w11 ⟨ax7,cx8,rfl,hs9⟩
 refine Lo (aL (Lt (Ls (La (Lt (Lb (Ls (La (Lt (Dz ?_))))))))))
 refine cS (t:=((([]:List Int).length:Nat):Int) == 0) (λh12=>?_) (λh12=>?_)
 ·have h12':((([]:List Int).length:Nat):Int)=0:=dt h12
  refine En (Lk (Lm (Lt (Ls (La (Lt (Le (Dz ?_))))))))
  refine aw.done (.inl rfl) (v:=.tuple #[zP cb1 0,.int .u64 0,.int .i64 0]) (λa hf=>results3 rfl zk zk zk a hf) ?_
  have hs13:=((hs9.pl 2).pl 1).pl 2
  have hs14:=hs13.dr 1
  exact⟨cb1,ao2,co3,rfl,hs14⟩
 ·have h12':¬ (((([]:List Int).length:Nat):Int)=0):=dH h12
  exfalso;simp only [aP,List.length_nil] at h12';omega
theorem tJ {w0 w:World}{L:List aI}{d:Nat}{D:Nat->aC}{nk:Nat}{g:et}(at_:Nat) (wq:Nat) (c:Int) (lv:Nat) (hat:at_+20<=32768) (hlv:lv<9000000000000000000) (hci:bz D at_ wq c (wd (lv:Nat))) (hs:St w0 (DK d D nk g::L) w):Calls Tryz.prog 97 #[zP d 0,.int .i64 (at_:Nat)] w (aZ λrv w'=>∃ (cb:Nat) (ao:Option Addr) (co:Nat),rv=.tuple #[zP cb 0,.int .u64 (lv:Nat),.int .i64 0]/\St w0 (ah cb #[zP d 0,.int .i64 (at_:Nat),.slice ao ((wd (lv:Nat)).length) co,.int .i64 (wq:Nat),.bool false] 197::DK d D nk g::L) w'):=by
 refine bp Tryz.func97 Tryz.ntmps97 ?_
 refine En (Ls (La (Lt (Ls (Ls (Lg [2] (Lu (Dz ?_))))))))
 refine aF Tryz.call52 (iM at_ wq c (wd (lv:Nat)) zc zD hs) ?_
 rintro v5 w6 ⟨cb1,ao2,co3,rfl,hs4⟩
 refine Lo (aL (Lt (Ls (La (Lt (LF (Lk (Lt (Ls (Ls (Lg [1] (Lu (Dz ?_)))))))))))))
 refine aF Tryz.call53 (jP at_ wq (wd (lv:Nat)) zb hs4) ?_
 rintro v10 w11 ⟨ax7,cx8,rfl,hs9⟩
 refine Lo (aL (Lt (Ls (La (Lt (Lb (Ls (La (Lt (Dz ?_))))))))))
 refine cS (t:=(((wd (lv:Nat)).length:Nat):Int) == 0) (λh12=>?_) (λh12=>?_)
 ·have h12':(((wd (lv:Nat)).length:Nat):Int)=0:=dt h12
  exfalso;simp only [aP,List.length_nil] at h12';omega
 ·have h12':¬ ((((wd (lv:Nat)).length:Nat):Int)=0):=dH h12
  refine En (Ls (La (Lt (Dz ?_))))
  refine cS (t:=(((wd (lv:Nat)).length:Nat):Int) == 8) (λh13=>?_) (λh13=>?_)
  ·have h13':(((wd (lv:Nat)).length:Nat):Int)=8:=dt h13
   refine En (Lg [1,2] (Lu (Dz ?_)))
   refine aF (f:=54) (args:=#[.slice ax7 ((wd (lv:Nat)).length) cx8]) Tryz.call54 (df (wd (lv:Nat)) zb (dQ hs9 1 rfl) (λw h=>h.rows 1 rfl aj.size _) hs9) ?_
   rintro v18 w19 ⟨cc14,ao15,co16,rfl,hs17⟩
   have hq20:aX (Sl ao15 co16 5 1 af (wd (lv:Nat))) ao15 (wd (lv:Nat)) co16:=aX.new hs17 (j:=1) rfl (eC _) (by rw [aP];omega)
   refine Lo (Dz ?_)
   refine aF Tryz.call55 (fc (Sl ao15 co16 5 1 af (wd (lv:Nat))) (wd (lv:Nat)) ([]:List Int) (lv:Nat) zp zc (λw h=>h.at_ 0 rfl) hq20 hs17) ?_
   rintro v25 w26 ⟨az21,cz22,rfl,hq223,hs24⟩
   refine Lo (aL (Lm (Lt (Ls (La (Lt (Le (Dz ?_))))))))
   refine aw.done (.inl rfl) (v:=.tuple #[zP cb1 0,.int .u64 (lv:Nat),.int .i64 0]) (λa hf=>results3 rfl zk zk zk a hf) ?_
   have hs27:=((((hs24.pl 4).pl 3).pl 4).pl 4).pl 4
   have hs28:=hs27.dr 3
   exact⟨cb1,ao2,co3,rfl,hs28⟩
  ·have h13':¬ ((((wd (lv:Nat)).length:Nat):Int)=8):=dH h13
   exfalso;simp only [aP,List.length_nil] at h13';omega
theorem oO {w0 w:World}{L:List aI}{d:Nat}{D:Nat->aC}{nk:Nat}{g:et}(at_:Nat) (wq:Nat) (c:Int) (lv:Nat) (hat:at_+20<=32768) (hlv:lv<9000000000000000000) (hci:bz D at_ wq c (iz lv)) (hs:St w0 (DK d D nk g::L) w):Calls Tryz.prog 97 #[zP d 0,.int .i64 (at_:Nat)] w (aZ λrv w'=>∃ (cb:Nat) (ao:Option Addr) (co:Nat),rv=.tuple #[zP cb 0,.int .u64 (lv:Nat),.int .i64 0]/\St w0 (ah cb #[zP d 0,.int .i64 (at_:Nat),.slice ao ((iz lv).length) co,.int .i64 (wq:Nat),.bool false] 197::DK d D nk g::L) w'):=by
 rcases Nat.eq_zero_or_pos lv with rfl|h0
 ·exact tI at_ wq c hat hci hs
 ·rw [xy h0] at hci
  rw [xy h0]
  exact tJ at_ wq c lv hat hlv hci hs
theorem vR {w0 w:World}{L:List aI}{d:Nat}{D:Nat->aC}{nk:Nat}{g:et}(at_:Nat) (wq:Nat) (c:Int) (hat:at_+20<=32768) (hcc:c+1<8000000000000000000) (hk:nk<800) (hci:bz D at_ wq c (iz 0)) (hs:St w0 (DK d D nk g::L) w):Calls Tryz.prog 61 #[zP d 0,.int .i64 (at_:Nat)] w (aZ λrv w'=>∃ (dq2:Nat->aC) (gd2:et),rv=.tuple #[.int .u64 1,.int .i64 0]/\bz dq2 at_ (1-wq) (c+1) (iz 1)/\(∀ a,(a<at_\/at_+20<=a)->dq2 a=D a)/\St w0 (DK d dq2 0 gd2::L) w'):=by
 refine bp Tryz.func61 Tryz.ntmps61 ?_
 refine En (Ls (La (Lt (Ls (Lg [2] (Lu (Dz ?_)))))))
 refine aF Tryz.call97 (oO at_ wq c 0 zc zc (by first|assumption|(have:=hbk;assumption)) hs) ?_
 rintro v5 w6 ⟨cb1,ao2,co3,rfl,hs4⟩
 refine Lo (aL (Lt (Ls (Ls (La (Lt (LF (Lk (Lt (Ls (La (Lt (Ls (Lg [3,4] (Lu (Dz ?_))))))))))))))))
 have hs7:=St.bW hs4 5 1 af
 refine aF (f:=99) (args:=#[.slice none 0 0,.int .u64 1]) Tryz.call99 (bX ([]:List Int) 1 ze za hs7) ?_
 rintro v11 w12 ⟨ao8,co9,rfl,hs10⟩
 refine Lo (Dz ?_)
 have hs13:=(hs10.pl 2).pl 2
 refine aF Tryz.call98 (oK at_ wq (iz 0) c (([]:List Int)++wd 1) zc (by first|assumption|(have:=hbk;assumption)) zc (by simp only [List.length_append,List.length_nil,List.length_cons,List.length_take,List.length_drop,List.length_replicate,aY,aP];omega) (fE.app fE.nil (eC _)) (dQ hs13 2 rfl) zc (λw h=>h.rows 0 rfl aj.size _) hs13) ?_
 rintro v21 w22 ⟨ax14,cx15,dq16,gd17,rfl,hci218,hout19,hs20⟩
 refine Lo (aL (Lt (Le (Dz ?_))))
 refine jE (v:=.int .u64 1) (v':=.int .i64 0) ?_
 have hs23:=(((hs20.pl 2).pl 3).pl 3).pl 3
 have hs24:=hs23.dr 3
 exact⟨dq16,gd17,rfl,hci218,hout19,hs24⟩
theorem vS {w0 w:World}{L:List aI}{d:Nat}{D:Nat->aC}{nk:Nat}{g:et}(at_:Nat) (wq:Nat) (c:Int) (sz:Nat) (hat:at_+20<=32768) (hz:21<=sz) (hz2:at_+sz<=32768) (hcc:c+1<8000000000000000000) (hk:nk<800) (hci:bz D at_ wq c (iz 0)) (hbk:eQ D (at_+20) 0 []) (hs:St w0 (DK d D nk g::L) w):Calls Tryz.prog 20 #[zP d 0,.int .i64 (at_:Nat),.int .i64 (sz:Nat)] w (aZ λrv w'=>∃ (bk:Nat) (ll:List cM) (ra:Option Addr) (rc:Nat) (dq2:Nat->aC) (gd2:et),rv=.tuple #[zP bk 0,.slice ra ll.length rc,.int .i64 0]/\ll.map cM.pl=[]/\bz dq2 at_ (1-wq) (c+1) (iz 1)/\(∀ a,(a<at_\/at_+20<=a)->dq2 a=D a)/\St w0 (ah bk #[zP d 0,.int .i64 (at_+20:Nat),.int .i64 (at_+sz:Nat),.int .u64 1,.int .i64 0,.bool false] 138::DK d dq2 0 gd2::L) w'):=by
 refine bp Tryz.func20 Tryz.ntmps20 ?_
 refine En (Ls (La (Lt (Ls (Ls (Lg [3] (Lu (Dz ?_))))))))
 refine aF (f:=60) (args:=#[zP d 0,.int .i64 (at_:Nat),.int .i64 (sz:Nat)]) Tryz.call60 (qF at_ sz zc zc hs) ?_
 rintro v2 w3 ⟨rfl,hs1⟩
 refine Lo (aL (Lt (Ls (La (Lt (LF (Lk (Lt (Ls (Lg [2] (Lu (Dz ?_))))))))))))
 refine aF Tryz.call61 (vR at_ wq c zc zc zc (by first|assumption|(have:=hbk;assumption)) hs1) ?_
 rintro v9 w10 ⟨dq4,gd5,rfl,hci26,hout7,hs8⟩
 refine Lo (aL (Lt (Ls (Ls (La (Lt (LF (Lk (Lt (Ls (Dz ?_)))))))))))
 refine bL [8] (cH 2 ((at_:Nat)+20) (cH 5 ((at_:Nat)+(sz:Nat)) Hz)) ?_
 refine ar.box rfl rfl zk (v:=.agg #[zP d 0,.int .i64 ((at_:Nat)+20),.int .i64 ((at_:Nat)+(sz:Nat)),.int .u64 1,.int .i64 0,.bool false]) zk hs8 (cs:=#[zP d 0,.int .i64 ((at_:Nat)+20),.int .i64 ((at_:Nat)+(sz:Nat)),.int .u64 1,.int .i64 0,.bool false]) zk ?_
 intro b11 w12 hs13
 refine Lo (aL (Lt (Ls (Dz ?_))))
 have hbk0:eQ dq4 (at_+20) 0 []:=hbk.congr λx hx=>hout7 x (.inr hx)
 refine En (Lg [2] (Lu (Dz ?_)))
 refine aF Tryz.call62 (tH (at_+20) (at_+sz) 1 0 ([]) (by first|exact hbk|exact hbk0) ⟨za,za⟩ zb zb (show at_+20<at_+sz by omega) zc hs13) ?_
 rintro v19 w20 ⟨ll14,ra15,rc16,rfl,hll17,hs18⟩
 refine Lo (aL (Lt (Le (Dz ?_))))
 refine aw.done (.inl rfl) (v:=.tuple #[zP b11 0,.slice ra15 ll14.length rc16,.int .i64 0]) (λa hf=>results3 rfl zk zk zk a hf) ?_
 have hs21:St w0 (ah b11 #[zP d 0,.int .i64 (at_+20:Nat),.int .i64 (at_+sz:Nat),.int .u64 1,.int .i64 0,.bool false] 138::DK d dq4 0 gd5::Sl ra15 rc16 85 1 cM.cells ll14::QB ll14::L) w20:=hs18
 have hs22:=(((hs21.pl 1).pl 1).pl 3).pl 3
 have hs23:=hs22.dr 2
 exact⟨b11,ll14,ra15,rc16,dq4,gd5,rfl,hll17,hci26,hout7,hs23⟩
theorem vT {w0 w:World}{L:List aI}{d:Nat}{D:Nat->aC}{nk:Nat}{g:et}(at_:Nat) (wq:Nat) (c:Int) (sz:Nat) (lv:Nat) (rs:List (List Int)) (hat:at_+20<=32768) (hz:21<=sz) (hz2:at_+sz<=32768) (hlv:lv<9000000000000000000) (hci:bz D at_ wq c (iz lv)) (hbk:eQ D (at_+20) 0 rs) (hrs:rs.length<=1000) (hen:cG (at_+20) rs<at_+sz) (hs:St w0 (DK d D nk g::L) w):Calls Tryz.prog 123 #[zP d 0,.int .i64 (at_:Nat),.int .i64 (sz:Nat)] w (aZ λrv w'=>∃ (ll:List cM) (ra:Option Addr) (rc:Nat),rv=.tuple #[.int .u64 (lv:Nat),.slice ra ll.length rc,.int .i64 (cG (at_+20) rs:Nat),.int .i64 0]/\ll.map cM.pl=rs/\St w0 (DK d D nk g::Sl ra rc 85 1 cM.cells ll::QB ll::L) w'):=by
 refine bp Tryz.func123 Tryz.ntmps123 ?_
 refine En (Ls (La (Lt (Ls (Ls (Lg [3] (Lu (Dz ?_))))))))
 refine aF (f:=60) (args:=#[zP d 0,.int .i64 (at_:Nat),.int .i64 (sz:Nat)]) Tryz.call60 (qF at_ sz zc zc hs) ?_
 rintro v2 w3 ⟨rfl,hs1⟩
 refine Lo (aL (Lt (Ls (La (Lt (LF (Lk (Lt (Ls (Ls (Lg [2] (Lu (Dz ?_)))))))))))))
 refine aF Tryz.call97 (oO at_ wq c lv zc zc (by first|assumption|(have:=hbk;assumption)) hs1) ?_
 rintro v8 w9 ⟨cb4,ao5,co6,rfl,hs7⟩
 refine Lo (aL (Lt (Ls (La (Lt (LF (Lk (Lt (Ls (Dz ?_))))))))))
 refine bL [9] (cH 2 ((at_:Nat)+20) (cH 5 ((at_:Nat)+(sz:Nat)) (qU 7 ((lv:Nat)+1) Hz))) ?_
 refine ar.box rfl rfl zk (v:=.agg #[zP d 0,.int .i64 ((at_:Nat)+20),.int .i64 ((at_:Nat)+(sz:Nat)),.int .u64 ((lv:Nat)+1),.int .i64 0,.bool false]) zk hs7 (cs:=#[zP d 0,.int .i64 ((at_:Nat)+20),.int .i64 ((at_:Nat)+(sz:Nat)),.int .u64 ((lv:Nat)+1),.int .i64 0,.bool false]) zk ?_
 intro b10 w11 hs12
 refine Lo (aL (Lt (Ls (Lg [1] (Lu (Dz ?_))))))
 have hs13:=(hs12.pl 2).pl 1
 refine aF Tryz.call62 (tH (at_+20) (at_+sz) ((lv:Nat)+1) 0 rs (by first|exact hbk|exact hbk0) ⟨za,za⟩ zb zb zc zc hs13) ?_
 rintro v19 w20 ⟨ll14,ra15,rc16,rfl,hll17,hs18⟩
 refine Lo (aL (Lt (Ls (Dz ?_))))
 refine aE.aV [0,0,0,4,12,28,1,67,255,511] (.rd 0 (.rd 1 (.rd 2 (.rd 3 (.rd 4 (.rd 5 (.rd 6 (.rd 7 (.rd 8 (.rd 9 .done)))))))))) zk zk ai zk hs18 ?_
 intro w21 hs22 hw23
 refine gY (Hl 5 0 1 hs22 Hz) ?_
 refine Zt (Ze (?_))
 refine aw.done (.inl rfl) (v:=.tuple #[.int .u64 (lv:Nat),.slice ra15 ll14.length rc16,.int .i64 (cG (at_+20) rs:Nat),.int .i64 0]) (λa hf=>yE rfl zk zk zk zk a hf) ?_
 have hs24:=((((hs22.pl 3).pl 3).pl 3).pl 4).pl 4
 have hs25:=hs24.dr 2
 exact⟨ll14,ra15,rc16,rfl,hll17,hs25⟩
theorem yG {w0 w:World}{L:List aI}{al:Option Addr}{cl:Nat}(l:List aT) (fq:Nat) (bx:Nat) (Q:aI) (pr:aT->Bool) (hll:l.length<=100000) (hcl:∀ args w,(callFunc fq args).run Tryz.prog w=.ok (.enter fq args) w) (hf_:∀ (q:aT) (L:List aI) (w:World),St w0 (Q::L) w->Calls Tryz.prog fq #[.agg (aT.cells q),zP bx 0] w (aZ λv w2=>v=.bool (pr q)/\St w0 (Q::L) w2)) (hr:∀ w,St w0 L w->ag w al l.length 2 (λk=>aT.cells (l.getD k aR))) (hs:St w0 (Q::L) w):Calls Tryz.prog 72 #[.slice al l.length cl,.func (.func fq) #[] #[zP bx 0]] w (aZ λrv w'=>∃ (v:Int),rv=.int .i64 v/\decide (v >= 0)=(l.any pr)/\St w0 (Q::L) w'):=by
 refine bp Tryz.func72 Tryz.ntmps72 ?_
 refine En (Ls (La (Lt (Ls (Ls (La (Lt (Lb (Dz ?_)))))))))
 refine aE.loop (T:=Nat×(Option Addr)) (λgg=>[(0,.slice gg.2 l.length cl),(1,.func (.func fq) #[] #[zP bx 0]),(7,.int .i64 (l.length:Nat)),(8,.int .i64 (gg.1:Nat))]) (λgg w=>(gg.1<=l.length/\((l.take gg.1).any pr)=false/\∀ w,St w0 L w->ag w gg.2 l.length 2 (λq=>aT.cells (l.getD q aR)))/\St w0 (Q::L) w) (λgg=>l.length-gg.1) (0,al) [0,1,7,8] zk ⟨⟨Nat.zero_le _,rfl,hr⟩,hs⟩ ?_
 rintro⟨k,aq⟩ w1 ⟨hp0,hs2⟩
 have hp:k<=l.length/\((l.take k).any pr)=false/\∀ w,St w0 L w->ag w aq l.length 2 (λq=>aT.cells (l.getD q aR)):=hp0
 have hs3:St w0 (Q::L) w1:=hs2
 refine Zn [(0,.slice aq l.length cl),(1,.func (.func fq) #[] #[zP bx 0]),(7,.int .i64 (l.length:Nat)),(8,.int .i64 (k:Nat))] ?_
 have hw:=hp.2.2
 refine En (Ls (La (Lt (Ls (Dz ?_)))))
 refine Zi (((k:Nat):Int)<(l.length:Nat)) (λh4'=>?_) (λh4'=>?_)
 ·have hk:k<l.length:=za
  obtain⟨ab5,ao6,rfl⟩:=ag.isSome (hw _ (hs3.drop 1)) za
  refine En (Lk (Lt (Ls (Lb (Ls (La (Lt (Ls (Dz ?_)))))))))
  refine bL [5] (Hx 3 ((k:Nat):Int) ((l.length:Nat):Int) ab5 ao6 2 (Hg 4 (.agg (aT.cells (l.getD k aR))) [.prop (Array.size (aT.cells (l.getD k aR))=2),.cells ⟨ab5,ao6+(k*2),none⟩ (aT.cells (l.getD k aR))] (aB zk (dq (ag.lO (hw _ (hs3.drop 1)) zd (Nat.le_of_ble_eq_true zk) zk) av)) Hz)) ?_
  refine aF (f:=fq) (args:=#[.agg (aT.cells (l.getD k aR)),zP bx 0]) hcl (hf_ (l.getD k aR) _ _ hs3) ?_
  rintro v8 w9 ⟨rfl,hs7⟩
  refine Lo (Ld (Lt (Dz ?_)))
  refine cS (t:=pr (l.getD k aR)) (λh10=>?_) (λh10=>?_)
  ·refine En (Ls (La (Lt (Le (Ll (Ly (uk (Ll (Ly (Dz ?_))))))))))
   refine bg (v:=.int .i64 (k:Nat)) ?_
   exact⟨(k:Nat),rfl,(by rw [show(l.any pr)=true from List.any_eq_true.2 ⟨_,eF (d:=aR) hk,h10⟩];exact decide_eq_true za),hs7⟩
  ·refine Zk (Zm (Zt (?_)))
   refine bj (cH 0 ((k:Nat)+1) Hz) ?_
   exact aw.back (k+1,some ⟨ab5,ao6,none⟩) [0,1,7,8] zk (by show l.length-(k+1)<l.length-k;omega) ⟨⟨za,by rw [bh (d:=aR) hk,List.any_append,hp.2.1];simp only [List.any_cons,List.any_nil,Bool.or_false,Bool.false_or];exact h10,hw⟩,hs7⟩
 ·have hke:l.take k=l:=List.take_of_length_le za
  refine En (Lx (gv (gw (Lh (Lt (Ls (La (Lt (Le (Dz ?_))))))))))
  refine bg (v:=.int .i64 (-1)) ?_
  exact⟨(-1),rfl,(by rw [<- hke,hp.2.1];rfl),hs3⟩
theorem mj {w0 w:World}{L:List aI}{al:Option Addr}{cl:Nat}(l:List aT) (fq:Nat) (bx:Nat) (Q:aI) (pr:aT->Bool) (hll:l.length<=100000) (hcl:∀ args w,(callFunc fq args).run Tryz.prog w=.ok (.enter fq args) w) (hf_:∀ (q:aT) (L:List aI) (w:World),St w0 (Q::L) w->Calls Tryz.prog fq #[.agg (aT.cells q),zP bx 0] w (aZ λv w2=>v=.bool (pr q)/\St w0 (Q::L) w2)) (hr:∀ w,St w0 L w->ag w al l.length 2 (λk=>aT.cells (l.getD k aR))) (hs:St w0 (Q::L) w):Calls Tryz.prog 29 #[.slice al l.length cl,.func (.func fq) #[] #[zP bx 0]] w (aZ λrv w'=>rv=.bool (l.any pr)/\St w0 (Q::L) w'):=by
 refine bp Tryz.func29 Tryz.ntmps29 ?_
 refine En (Ls (La (Lt (Ls (Lg [2] (Lu (Dz ?_)))))))
 refine aF (f:=72) (args:=#[.slice al l.length cl,.func (.func fq) #[] #[zP bx 0]]) Tryz.call72 (yG l fq bx Q pr zc hcl hf_ (λw h=>hr _ (h.drop 0)) hs) ?_
 rintro v4 w5 ⟨v1,rfl,hv2,hs3⟩
 refine Lo (aL (Lt (Le (Dz ?_))))
 refine bg (v:=.bool (decide ((v1:Int) >= 0))) ?_
 exact⟨congrArg Value.bool hv2,hs3⟩
structure gH where
 og:Int
 at_:Int
def gH.cells (x:gH):Array Value:=#[.int .i64 x.og,.int .i64 x.at_]
abbrev Ed:gH:=⟨0,0⟩
theorem C4:dE gH.cells 2:=⟨λ_=>rfl,λ_=>rfl⟩
theorem DV:ff Tryz.prog 176 262 2 16:=⟨zk,⟨Tryz.t262,.agg (gH.cells Ed),zk,zk,zk,zk,zk⟩,zf⟩
def aA (k:Nat):aD:=#v[0,(k:Nat),0,0,0,0,0,0,0,0,0]
theorem dL (k i:Nat):(aA k).toList.getD i 0=if i=1 then (k:Int) else 0:=by
 match i with
 | 0=>rfl
 | 1=>rfl
 | 2=>rfl
 | 3=>rfl
 | 4=>rfl
 | 5=>rfl
 | 6=>rfl
 | 7=>rfl
 | 8=>rfl
 | 9=>rfl
 | 10=>rfl
 | n+11=>rw [if_neg za,List.getD_eq_getElem?_getD,List.getElem?_eq_none zT];rfl
structure y9 where
 sa:Option Addr
 sc:Nat
 xs:List an
 oa:Option Addr
 oc:Nat
 ol:List gH
def y9.ok (g:y9) (k:Nat):Prop:=g.xs.length=k/\g.ol.length=k/\∀ j,j<k->(g.xs.getD j dm).dp=aA j
def LO (p:Nat) (n:Int) (k:Nat) (g:y9):aI:=Bd (g.ok k) [ah p #[.int .i64 n,.slice none 0 0,.slice g.sa g.xs.length g.sc,.slice none 0 0,.slice none 0 0,.slice none 0 0,.slice none 0 0,.slice none 0 0,.slice none 0 0,.slice none 0 0,.slice none 0 0,.slice none 0 0,.slice g.oa g.ol.length g.oc] 178,Sl g.sa g.sc 43 121 an.cells g.xs,Sl g.oa g.oc 262 2 gH.cells g.ol]
theorem yH {w0 w:World}{L:List aI}(n:Int) (hn:(n=3\/n=5)) (hs:St w0 L w):Calls Tryz.prog 89 #[.int .i64 n] w (aZ λrv w'=>rv=.bool true/\St w0 L w'):=by
 refine bp Tryz.func89 Tryz.ntmps89 ?_
 refine En (Ls (La (Lt (Ls (Dz ?_)))))
 refine aE.join (T:=Unit) (E:=λ_=>[(2,.bool (((decide ((n:Int) >= 3)) && (decide ((n:Int)<=11))) && (((n % 2):Int) == 1)))]) (F:=λ_ w=>St w0 L w) ?_ ?_
 ·refine Zg [] ?_
  refine Zr 0 3 [] ?_
  rcases Bool.eq_false_or_eq_true (decide ((n:Int) >= 3)) with h1|h1
  ·refine di 5 true h1 ?_
   have h1':(n:Int) >= 3:=of_decide_eq_true h1
   refine Zr 3 4 [] ?_
   rcases Bool.eq_false_or_eq_true (decide ((n:Int)<=11)) with h2|h2
   ·refine di 9 true h2 ?_
    have h2':(n:Int)<=11:=of_decide_eq_true h2
    refine gY (Hg 8 (.div (n % 2)) [.prop (IntKind.i64=IntKind.i64/\(2:Int)≠0/\Int.tmod n 2=n % 2)] (aB ⟨rfl,zf,Int.tmod_eq_emod_of_nonneg (by first|omega|exact Int.natCast_nonneg _)⟩ av) Hz) ?_
    refine aw.pick [2] (S':=[(2,.bool (((n % 2):Int) == 1))]) zk ?_
    exact aw.bD () (by first|rfl|(simp only [h1,h2,Bool.not_true,Bool.not_false,Bool.true_or,Bool.false_or,Bool.true_and,Bool.false_and,Bool.or_true,Bool.or_false,Bool.and_true,Bool.and_false];done)|(simp [h1,h2];done)) hs
   ·refine di 9 false h2 ?_
    have h2':¬ ((n:Int)<=11):=of_decide_eq_false h2
    refine En (aL (Dz ?_))
    refine aw.pick [2] (S':=[(2,.bool false)]) zk ?_
    exact aw.bD () (by first|rfl|(simp only [h1,h2,Bool.not_true,Bool.not_false,Bool.true_or,Bool.false_or,Bool.true_and,Bool.false_and,Bool.or_true,Bool.or_false,Bool.and_true,Bool.and_false];done)|(simp [h1,h2];done)) hs
  ·refine di 5 false h1 ?_
   have h1':¬ ((n:Int) >= 3):=of_decide_eq_false h1
   refine En (aL (Dz ?_))
   refine aw.pick [2] (S':=[(2,.bool false)]) zk ?_
   exact aw.bD () (by first|rfl|(simp only [h1,Bool.not_true,Bool.not_false,Bool.true_or,Bool.false_or,Bool.true_and,Bool.false_and,Bool.or_true,Bool.or_false,Bool.and_true,Bool.and_false];done)|(simp [h1];done)) hs
 intro _ w3 hs4
 refine Zt (Ze (?_))
 refine bg (v:=.bool (((decide ((n:Int) >= 3)) && (decide ((n:Int)<=11))) && (((n % 2):Int) == 1))) ?_
 exact⟨(by rcases hn with rfl|rfl<;>rfl),hs4⟩
theorem vU {w0 w:World}{L:List aI}(hs:St w0 L w):Calls Tryz.prog 89 #[.int .i64 4] w (aZ λrv w'=>rv=.bool false/\St w0 L w'):=by
 refine bp Tryz.func89 Tryz.ntmps89 ?_
 refine En (Ls (La (Lt (Ls (Dz ?_)))))
 refine bj (Hg 8 (.div 0) [.prop (IntKind.i64=IntKind.i64/\(2:Int)≠0/\Int.tmod 4 2=0)] (aB zf av) Hz) ?_
 refine Zt (Ze (?_))
 refine bg (v:=.bool false) ?_
 exact⟨rfl,hs⟩
theorem oP {w0 w:World}{L:List aI}(n:Int) (hn:(n=3\/n=5)) (hs:St w0 L w):Calls Tryz.prog 44 #[.int .i64 n] w (aZ λrv w'=>∃ (p:Nat) (lg2:y9),rv=.tuple #[zP p 0,.int .i64 0]/\St w0 (LO p n 0 lg2::L) w'):=by
 refine bp Tryz.func44 Tryz.ntmps44 ?_
 refine En (Ls (La (Lt (Ls (Ls (Lg [1] (Lu (Dz ?_))))))))
 refine aF Tryz.call89 (yH n hn hs) ?_
 rintro v2 w3 ⟨rfl,hs1⟩
 refine Lo (aL (Lt (LF (Lk (Lt (Ls (Lg [2] (Lu (Dz ?_)))))))))
 refine ar.box rfl rfl zk (v:=.agg #[.int .i64 n,.slice none 0 0,.slice none 0 0,.slice none 0 0,.slice none 0 0,.slice none 0 0,.slice none 0 0,.slice none 0 0,.slice none 0 0,.slice none 0 0,.slice none 0 0,.slice none 0 0,.slice none 0 0]) zk hs1 (cs:=#[.int .i64 n,.slice none 0 0,.slice none 0 0,.slice none 0 0,.slice none 0 0,.slice none 0 0,.slice none 0 0,.slice none 0 0,.slice none 0 0,.slice none 0 0,.slice none 0 0,.slice none 0 0,.slice none 0 0]) zk ?_
 intro b4 w5 hs6
 refine Lo (aL (Lt (Le (Dz ?_))))
 refine jE (v:=zP b4 0) (v':=.int .i64 0) ?_
 have hs7:=St.bW hs6 262 2 gH.cells
 have hs8:=St.bW hs7 43 121 an.cells
 have hs9:=((hs8.pl 1).pl 1).pl 2
 have hs10:St w0 (LO b4 n 0 (⟨none,0,[],none,0,[]⟩)::L) w5:=Bd.close ⟨rfl,rfl,λj hj=>absurd hj (Nat.not_lt_zero _)⟩ hs9
 exact⟨b4,⟨none,0,[],none,0,[]⟩,rfl,hs10⟩
theorem tK {w0 w:World}{L:List aI}(hs:St w0 L w):Calls Tryz.prog 44 #[.int .i64 4] w (aZ λrv w'=>rv=.tuple #[.pointer none,.int .i64 1]/\St w0 L w'):=by
 refine bp Tryz.func44 Tryz.ntmps44 ?_
 refine En (Ls (La (Lt (Ls (Ls (Lg [1] (Lu (Dz ?_))))))))
 refine aF Tryz.call89 (vU hs) ?_
 rintro v2 w3 ⟨rfl,hs1⟩
 refine Lo (aL (Lt (LT (Ls (La (Lt (Le (Ly (Dz ?_)))))))))
 refine jE (v:=.pointer none) (v':=.int .i64 1) ?_
 exact⟨rfl,hs1⟩
theorem gB {w0 w:World}{L:List aI}{p:Nat}(n:Int) (k:Nat) (lg:y9) (hk:k<=100000) (hs:St w0 (LO p n k lg::L) w):Calls Tryz.prog 69 #[zP p 0] w (aZ λrv w'=>rv=.agg (aD.cells (aA k))/\St w0 (LO p n k lg::L) w'):=by
 obtain⟨hg2,hs10⟩:=Bd.open hs
 have hs1:St w0 (ah p #[.int .i64 n,.slice none 0 0,.slice lg.sa lg.xs.length lg.sc,.slice none 0 0,.slice none 0 0,.slice none 0 0,.slice none 0 0,.slice none 0 0,.slice none 0 0,.slice none 0 0,.slice none 0 0,.slice none 0 0,.slice lg.oa lg.ol.length lg.oc] 178::Sl lg.sa lg.sc 43 121 an.cells lg.xs::Sl lg.oa lg.oc 262 2 gH.cells lg.ol::L) w:=hs10
 refine bp Tryz.func69 Tryz.ntmps69 ?_
 refine Zs (?_)
 have hxn:lg.xs.length=k:=hg2.1
 refine Zg [0] ?_
 refine ar.alloc rfl rfl zk (z:=.agg (aD.cells mw)) zk hs1 (cs:=aD.cells mw) zk ?_
 intro b3 w4 hs5
 refine Lo (Ld (Lt (Ls (Ls (La (Lt (LT (Ls (Dz ?_)))))))))
 refine bj (du 3 1 1 11 (#[.slice none 0 0,.slice lg.sa lg.xs.length lg.sc,.slice none 0 0,.slice none 0 0,.slice none 0 0,.slice none 0 0,.slice none 0 0,.slice none 0 0,.slice none 0 0,.slice none 0 0,.slice none 0 0]) hs5 Hz) ?_
 refine Zt (Zb (?_))
 have hs6:St w0 (ah b3 Dr 41::ah p #[.int .i64 n,.slice none 0 0,.slice lg.sa lg.xs.length lg.sc,.slice none 0 0,.slice none 0 0,.slice none 0 0,.slice none 0 0,.slice none 0 0,.slice none 0 0,.slice none 0 0,.slice none 0 0,.slice none 0 0,.slice lg.oa lg.ol.length lg.oc] 178::Sl lg.sa lg.sc 43 121 an.cells lg.xs::Sl lg.oa lg.oc 262 2 gH.cells lg.ol::L) w4:=hs5
 refine aE.dJ 12 ?_
 refine En (Ls (La (Lt (Ls (LT (Lk (Lt (Ls (Lb (Ls (Dz ?_)))))))))))
 refine bj (Hg 1 (.elem (.slice none 0 0)) [.prop (0<=(0:Int)/\(0:Int)<(11:Int)),.prop ((#[.slice none 0 0,.slice lg.sa lg.xs.length lg.sc,.slice none 0 0,.slice none 0 0,.slice none 0 0,.slice none 0 0,.slice none 0 0,.slice none 0 0,.slice none 0 0,.slice none 0 0,.slice none 0 0]:Array Value)[Int.toNat (0)*1]?=some (.slice none 0 0))] (aB zf (aB rfl av)) Hz) ?_
 refine Zt (?_)
 refine bL [5] (Hx 4 (0:Int) (11:Int) b3 0 1 Hz) ?_
 refine Zv (b:=b3) (off:=0) (v:=.int .u64 0) (ti:=Tryz.t31) zk hs6 0 (cs':=Dr) ?_
 intro w7 hs8
 refine Lo (Ld (Lm (Lt (La (Dz ?_)))))
 refine aw.again ?_
 refine En (Ls (La (Lt (Ls (LT (Lk (Lt (Ls (Lb (Ls (Dz ?_)))))))))))
 refine bj (Hg 1 (.elem (.slice lg.sa lg.xs.length lg.sc)) [.prop (0<=(1:Int)/\(1:Int)<(11:Int)),.prop ((#[.slice none 0 0,.slice lg.sa lg.xs.length lg.sc,.slice none 0 0,.slice none 0 0,.slice none 0 0,.slice none 0 0,.slice none 0 0,.slice none 0 0,.slice none 0 0,.slice none 0 0,.slice none 0 0]:Array Value)[Int.toNat (1)*1]?=some (.slice lg.sa lg.xs.length lg.sc))] (aB zf (aB rfl av)) Hz) ?_
 refine Zt (?_)
 refine bL [5] (qU 3 (lg.xs.length:Nat) (Hx 4 (1:Int) (11:Int) b3 0 1 Hz)) ?_
 refine Zv (b:=b3) (off:=1) (v:=.int .u64 (lg.xs.length:Nat)) (ti:=Tryz.t31) zk hs8 0 (cs':=#[.int .u64 0,.int .u64 (lg.xs.length:Nat),.int .u64 0,.int .u64 0,.int .u64 0,.int .u64 0,.int .u64 0,.int .u64 0,.int .u64 0,.int .u64 0,.int .u64 0]) ?_
 intro w9 hs10
 refine Lo (Ld (Lm (Lt (La (Dz ?_)))))
 refine aw.again ?_
 refine En (Ls (La (Lt (Ls (LT (Lk (Lt (Ls (Lb (Ls (Dz ?_)))))))))))
 refine bj (Hg 1 (.elem (.slice none 0 0)) [.prop (0<=(2:Int)/\(2:Int)<(11:Int)),.prop ((#[.slice none 0 0,.slice lg.sa lg.xs.length lg.sc,.slice none 0 0,.slice none 0 0,.slice none 0 0,.slice none 0 0,.slice none 0 0,.slice none 0 0,.slice none 0 0,.slice none 0 0,.slice none 0 0]:Array Value)[Int.toNat (2)*1]?=some (.slice none 0 0))] (aB zf (aB rfl av)) Hz) ?_
 refine Zt (?_)
 refine bL [5] (Hx 4 (2:Int) (11:Int) b3 0 1 Hz) ?_
 refine Zv (b:=b3) (off:=2) (v:=.int .u64 0) (ti:=Tryz.t31) zk hs10 0 (cs':=#[.int .u64 0,.int .u64 (lg.xs.length:Nat),.int .u64 0,.int .u64 0,.int .u64 0,.int .u64 0,.int .u64 0,.int .u64 0,.int .u64 0,.int .u64 0,.int .u64 0]) ?_
 intro w11 hs12
 refine Lo (Ld (Lm (Lt (La (Dz ?_)))))
 refine aw.again ?_
 refine En (Ls (La (Lt (Ls (LT (Lk (Lt (Ls (Lb (Ls (Dz ?_)))))))))))
 refine bj (Hg 1 (.elem (.slice none 0 0)) [.prop (0<=(3:Int)/\(3:Int)<(11:Int)),.prop ((#[.slice none 0 0,.slice lg.sa lg.xs.length lg.sc,.slice none 0 0,.slice none 0 0,.slice none 0 0,.slice none 0 0,.slice none 0 0,.slice none 0 0,.slice none 0 0,.slice none 0 0,.slice none 0 0]:Array Value)[Int.toNat (3)*1]?=some (.slice none 0 0))] (aB zf (aB rfl av)) Hz) ?_
 refine Zt (?_)
 refine bL [5] (Hx 4 (3:Int) (11:Int) b3 0 1 Hz) ?_
 refine Zv (b:=b3) (off:=3) (v:=.int .u64 0) (ti:=Tryz.t31) zk hs12 0 (cs':=#[.int .u64 0,.int .u64 (lg.xs.length:Nat),.int .u64 0,.int .u64 0,.int .u64 0,.int .u64 0,.int .u64 0,.int .u64 0,.int .u64 0,.int .u64 0,.int .u64 0]) ?_
 intro w13 hs14
 refine Lo (Ld (Lm (Lt (La (Dz ?_)))))
 refine aw.again ?_
 refine En (Ls (La (Lt (Ls (LT (Lk (Lt (Ls (Lb (Ls (Dz ?_)))))))))))
 refine bj (Hg 1 (.elem (.slice none 0 0)) [.prop (0<=(4:Int)/\(4:Int)<(11:Int)),.prop ((#[.slice none 0 0,.slice lg.sa lg.xs.length lg.sc,.slice none 0 0,.slice none 0 0,.slice none 0 0,.slice none 0 0,.slice none 0 0,.slice none 0 0,.slice none 0 0,.slice none 0 0,.slice none 0 0]:Array Value)[Int.toNat (4)*1]?=some (.slice none 0 0))] (aB zf (aB rfl av)) Hz) ?_
 refine Zt (?_)
 refine bL [5] (Hx 4 (4:Int) (11:Int) b3 0 1 Hz) ?_
 refine Zv (b:=b3) (off:=4) (v:=.int .u64 0) (ti:=Tryz.t31) zk hs14 0 (cs':=#[.int .u64 0,.int .u64 (lg.xs.length:Nat),.int .u64 0,.int .u64 0,.int .u64 0,.int .u64 0,.int .u64 0,.int .u64 0,.int .u64 0,.int .u64 0,.int .u64 0]) ?_
 intro w15 hs16
 refine Lo (Ld (Lm (Lt (La (Dz ?_)))))
 refine aw.again ?_
 refine En (Ls (La (Lt (Ls (LT (Lk (Lt (Ls (Lb (Ls (Dz ?_)))))))))))
 refine bj (Hg 1 (.elem (.slice none 0 0)) [.prop (0<=(5:Int)/\(5:Int)<(11:Int)),.prop ((#[.slice none 0 0,.slice lg.sa lg.xs.length lg.sc,.slice none 0 0,.slice none 0 0,.slice none 0 0,.slice none 0 0,.slice none 0 0,.slice none 0 0,.slice none 0 0,.slice none 0 0,.slice none 0 0]:Array Value)[Int.toNat (5)*1]?=some (.slice none 0 0))] (aB zf (aB rfl av)) Hz) ?_
 refine Zt (?_)
 refine bL [5] (Hx 4 (5:Int) (11:Int) b3 0 1 Hz) ?_
 refine Zv (b:=b3) (off:=5) (v:=.int .u64 0) (ti:=Tryz.t31) zk hs16 0 (cs':=#[.int .u64 0,.int .u64 (lg.xs.length:Nat),.int .u64 0,.int .u64 0,.int .u64 0,.int .u64 0,.int .u64 0,.int .u64 0,.int .u64 0,.int .u64 0,.int .u64 0]) ?_
 intro w17 hs18
 refine Lo (Ld (Lm (Lt (La (Dz ?_)))))
 refine aw.again ?_
 refine En (Ls (La (Lt (Ls (LT (Lk (Lt (Ls (Lb (Ls (Dz ?_)))))))))))
 refine bj (Hg 1 (.elem (.slice none 0 0)) [.prop (0<=(6:Int)/\(6:Int)<(11:Int)),.prop ((#[.slice none 0 0,.slice lg.sa lg.xs.length lg.sc,.slice none 0 0,.slice none 0 0,.slice none 0 0,.slice none 0 0,.slice none 0 0,.slice none 0 0,.slice none 0 0,.slice none 0 0,.slice none 0 0]:Array Value)[Int.toNat (6)*1]?=some (.slice none 0 0))] (aB zf (aB rfl av)) Hz) ?_
 refine Zt (?_)
 refine bL [5] (Hx 4 (6:Int) (11:Int) b3 0 1 Hz) ?_
 refine Zv (b:=b3) (off:=6) (v:=.int .u64 0) (ti:=Tryz.t31) zk hs18 0 (cs':=#[.int .u64 0,.int .u64 (lg.xs.length:Nat),.int .u64 0,.int .u64 0,.int .u64 0,.int .u64 0,.int .u64 0,.int .u64 0,.int .u64 0,.int .u64 0,.int .u64 0]) ?_
 intro w19 hs20
 refine Lo (Ld (Lm (Lt (La (Dz ?_)))))
 refine aw.again ?_
 refine En (Ls (La (Lt (Ls (LT (Lk (Lt (Ls (Lb (Ls (Dz ?_)))))))))))
 refine bj (Hg 1 (.elem (.slice none 0 0)) [.prop (0<=(7:Int)/\(7:Int)<(11:Int)),.prop ((#[.slice none 0 0,.slice lg.sa lg.xs.length lg.sc,.slice none 0 0,.slice none 0 0,.slice none 0 0,.slice none 0 0,.slice none 0 0,.slice none 0 0,.slice none 0 0,.slice none 0 0,.slice none 0 0]:Array Value)[Int.toNat (7)*1]?=some (.slice none 0 0))] (aB zf (aB rfl av)) Hz) ?_
 refine Zt (?_)
 refine bL [5] (Hx 4 (7:Int) (11:Int) b3 0 1 Hz) ?_
 refine Zv (b:=b3) (off:=7) (v:=.int .u64 0) (ti:=Tryz.t31) zk hs20 0 (cs':=#[.int .u64 0,.int .u64 (lg.xs.length:Nat),.int .u64 0,.int .u64 0,.int .u64 0,.int .u64 0,.int .u64 0,.int .u64 0,.int .u64 0,.int .u64 0,.int .u64 0]) ?_
 intro w21 hs22
 refine Lo (Ld (Lm (Lt (La (Dz ?_)))))
 refine aw.again ?_
 refine En (Ls (La (Lt (Ls (LT (Lk (Lt (Ls (Lb (Ls (Dz ?_)))))))))))
 refine bj (Hg 1 (.elem (.slice none 0 0)) [.prop (0<=(8:Int)/\(8:Int)<(11:Int)),.prop ((#[.slice none 0 0,.slice lg.sa lg.xs.length lg.sc,.slice none 0 0,.slice none 0 0,.slice none 0 0,.slice none 0 0,.slice none 0 0,.slice none 0 0,.slice none 0 0,.slice none 0 0,.slice none 0 0]:Array Value)[Int.toNat (8)*1]?=some (.slice none 0 0))] (aB zf (aB rfl av)) Hz) ?_
 refine Zt (?_)
 refine bL [5] (Hx 4 (8:Int) (11:Int) b3 0 1 Hz) ?_
 refine Zv (b:=b3) (off:=8) (v:=.int .u64 0) (ti:=Tryz.t31) zk hs22 0 (cs':=#[.int .u64 0,.int .u64 (lg.xs.length:Nat),.int .u64 0,.int .u64 0,.int .u64 0,.int .u64 0,.int .u64 0,.int .u64 0,.int .u64 0,.int .u64 0,.int .u64 0]) ?_
 intro w23 hs24
 refine Lo (Ld (Lm (Lt (La (Dz ?_)))))
 refine aw.again ?_
 refine En (Ls (La (Lt (Ls (LT (Lk (Lt (Ls (Lb (Ls (Dz ?_)))))))))))
 refine bj (Hg 1 (.elem (.slice none 0 0)) [.prop (0<=(9:Int)/\(9:Int)<(11:Int)),.prop ((#[.slice none 0 0,.slice lg.sa lg.xs.length lg.sc,.slice none 0 0,.slice none 0 0,.slice none 0 0,.slice none 0 0,.slice none 0 0,.slice none 0 0,.slice none 0 0,.slice none 0 0,.slice none 0 0]:Array Value)[Int.toNat (9)*1]?=some (.slice none 0 0))] (aB zf (aB rfl av)) Hz) ?_
 refine Zt (?_)
 refine bL [5] (Hx 4 (9:Int) (11:Int) b3 0 1 Hz) ?_
 refine Zv (b:=b3) (off:=9) (v:=.int .u64 0) (ti:=Tryz.t31) zk hs24 0 (cs':=#[.int .u64 0,.int .u64 (lg.xs.length:Nat),.int .u64 0,.int .u64 0,.int .u64 0,.int .u64 0,.int .u64 0,.int .u64 0,.int .u64 0,.int .u64 0,.int .u64 0]) ?_
 intro w25 hs26
 refine Lo (Ld (Lm (Lt (La (Dz ?_)))))
 refine aw.again ?_
 refine En (Ls (La (Lt (Ls (LT (Lk (Lt (Ls (Lb (Ls (Dz ?_)))))))))))
 refine bj (Hg 1 (.elem (.slice none 0 0)) [.prop (0<=(10:Int)/\(10:Int)<(11:Int)),.prop ((#[.slice none 0 0,.slice lg.sa lg.xs.length lg.sc,.slice none 0 0,.slice none 0 0,.slice none 0 0,.slice none 0 0,.slice none 0 0,.slice none 0 0,.slice none 0 0,.slice none 0 0,.slice none 0 0]:Array Value)[Int.toNat (10)*1]?=some (.slice none 0 0))] (aB zf (aB rfl av)) Hz) ?_
 refine Zt (?_)
 refine bL [5] (Hx 4 (10:Int) (11:Int) b3 0 1 Hz) ?_
 refine Zv (b:=b3) (off:=10) (v:=.int .u64 0) (ti:=Tryz.t31) zk hs26 0 (cs':=#[.int .u64 0,.int .u64 (lg.xs.length:Nat),.int .u64 0,.int .u64 0,.int .u64 0,.int .u64 0,.int .u64 0,.int .u64 0,.int .u64 0,.int .u64 0,.int .u64 0]) ?_
 intro w27 hs28
 refine Lo (Ld (Lm (Lt (La (Dz ?_)))))
 refine aw.again ?_
 refine En (Ls (La (Lt (Ls (LF (Lx (gv (gw (Lh (Lt (Ls (Dz ?_))))))))))))
 refine bL [1] (du 0 0 0 11 (#[.int .u64 0,.int .u64 (lg.xs.length:Nat),.int .u64 0,.int .u64 0,.int .u64 0,.int .u64 0,.int .u64 0,.int .u64 0,.int .u64 0,.int .u64 0,.int .u64 0]) hs28 Hz) ?_
 refine Zv (b:=b3) (off:=0) (v:=.agg #[.int .u64 0,.int .u64 (lg.xs.length:Nat),.int .u64 0,.int .u64 0,.int .u64 0,.int .u64 0,.int .u64 0,.int .u64 0,.int .u64 0,.int .u64 0,.int .u64 0]) (ti:=Tryz.t41) zk hs28 0 (cs':=#[.int .u64 0,.int .u64 (lg.xs.length:Nat),.int .u64 0,.int .u64 0,.int .u64 0,.int .u64 0,.int .u64 0,.int .u64 0,.int .u64 0,.int .u64 0,.int .u64 0]) ?_
 intro w29 hs30
 refine Lo (Ld (Lt (Le (Dz ?_))))
 refine aw.done (.inl rfl) (v:=.agg #[.int .u64 0,.int .u64 (lg.xs.length:Nat),.int .u64 0,.int .u64 0,.int .u64 0,.int .u64 0,.int .u64 0,.int .u64 0,.int .u64 0,.int .u64 0,.int .u64 0]) (λa hf=>ct rfl zk (ti:=Tryz.t41) zk zk (vs:=#[.int .u64 0,.int .u64 (lg.xs.length:Nat),.int .u64 0,.int .u64 0,.int .u64 0,.int .u64 0,.int .u64 0,.int .u64 0,.int .u64 0,.int .u64 0,.int .u64 0]) zk (hs30.cells 0 0 rfl zk) a hf) ?_
 have hs31:=((hs30.pl 3).pl 3).pl 3
 have hs32:St w0 (LO p n k lg::ah b3 #[.int .u64 0,.int .u64 (lg.xs.length:Nat),.int .u64 0,.int .u64 0,.int .u64 0,.int .u64 0,.int .u64 0,.int .u64 0,.int .u64 0,.int .u64 0,.int .u64 0] 41::L) w29:=Bd.close hg2 hs31
 have hs33:=(hs32.pl 0).pl 1
 have hs34:=hs33.dr 1
 exact⟨(by rw [<- hg2.1];rfl),hs34⟩
abbrev Nn (ad:Option Addr) (c:Nat):Prop:=ad=none->c=0
theorem A2 {w0 w:World}{L:List aI}(x:Int) (hs:St w0 L w):Calls Tryz.prog 193 #[.int .u64 x] w (aZ λrv w'=>rv=.bool (decide ((x:Int)>0))/\St w0 L w'):=by
 refine bp Tryz.func193 Tryz.ntmps193 ?_
 refine En (Ls (La (Lt (Ls (La (Lt (Le (Dz ?_))))))))
 refine bg (v:=.bool (decide ((x:Int)>0))) ?_
 exact⟨rfl,hs⟩
theorem yI {w0 w:World}{L:List aI}{al:Option Addr}{cl:Nat}(l:List Int) (hll:l.length<=100000) (hr:∀ w,St w0 L w->ag w al l.length 1 (λk=>bG (l.getD k 0))) (hs:St w0 L w):Calls Tryz.prog 209 #[.slice al l.length cl,.func (.func 193) #[] #[]] w (aZ λrv w'=>∃ (v:Int),rv=.int .i64 v/\decide (v >= 0)=(l.any (λx=>decide ((x:Int)>0)))/\St w0 L w'):=by
 refine bp Tryz.func209 Tryz.ntmps209 ?_
 refine En (Ls (La (Lt (Ls (Ls (La (Lt (Lb (Dz ?_)))))))))
 refine aE.loop (T:=Nat×(Option Addr)) (λgg=>[(0,.slice gg.2 l.length cl),(1,.func (.func 193) #[] #[]),(7,.int .i64 (l.length:Nat)),(8,.int .i64 (gg.1:Nat))]) (λgg w=>(gg.1<=l.length/\((l.take gg.1).any (λx=>decide ((x:Int)>0)))=false/\∀ w,St w0 L w->ag w gg.2 l.length 1 (λq=>bG (l.getD q 0)))/\St w0 L w) (λgg=>l.length-gg.1) (0,al) [0,1,7,8] zk ⟨⟨Nat.zero_le _,rfl,hr⟩,hs⟩ ?_
 rintro⟨k,aq⟩ w1 ⟨hp0,hs2⟩
 have hp:k<=l.length/\((l.take k).any (λx=>decide ((x:Int)>0)))=false/\∀ w,St w0 L w->ag w aq l.length 1 (λq=>bG (l.getD q 0)):=hp0
 have hs3:St w0 L w1:=hs2
 refine Zn [(0,.slice aq l.length cl),(1,.func (.func 193) #[] #[]),(7,.int .i64 (l.length:Nat)),(8,.int .i64 (k:Nat))] ?_
 have hw:=hp.2.2
 refine En (Ls (La (Lt (Ls (Dz ?_)))))
 refine Zi (((k:Nat):Int)<(l.length:Nat)) (λh4'=>?_) (λh4'=>?_)
 ·have hk:k<l.length:=za
  obtain⟨ab5,ao6,rfl⟩:=ag.isSome (hw _ (hs3.drop 0)) za
  refine En (Lk (Lt (Ls (Lb (Ls (La (Lt (Ls (Dz ?_)))))))))
  refine bL [5] (Hx 3 ((k:Nat):Int) ((l.length:Nat):Int) ab5 ao6 1 (Hg 4 (.gen [.int .u64 (l.getD k 0)]) [.cell ⟨ab5,ao6+(k*1),none⟩ (.int .u64 (l.getD k 0))] (aG (ag.cC (hw _ (hs3.drop 0)) (k:=k) zd (j:=0) zf zk) av) Hz)) ?_
  refine aF Tryz.call193 (A2 (l.getD k 0) hs3) ?_
  rintro v8 w9 ⟨rfl,hs7⟩
  refine Lo (Ld (Lt (Dz ?_)))
  refine Zi (((l.getD k 0):Int)>0) (λh10'=>?_) (λh10'=>?_)
  ·refine En (Ls (La (Lt (Le (Ll (Ly (uk (Ll (Ly (Dz ?_))))))))))
   refine bg (v:=.int .i64 (k:Nat)) ?_
   exact⟨(k:Nat),rfl,(by rw [show(l.any (λx=>decide ((x:Int)>0)))=true from List.any_eq_true.2 ⟨_,eF (d:=(0:Int)) hk,decide_eq_true h10'⟩];exact decide_eq_true za),hs7⟩
  ·refine Zk (Zm (Zt (?_)))
   refine bj (cH 0 ((k:Nat)+1) Hz) ?_
   exact aw.back (k+1,some ⟨ab5,ao6,none⟩) [0,1,7,8] zk (by show l.length-(k+1)<l.length-k;omega) ⟨⟨za,by rw [bh (d:=(0:Int)) hk,List.any_append,hp.2.1];simp only [List.any_cons,List.any_nil,Bool.or_false,Bool.false_or];exact(decide_eq_false h10'),hw⟩,hs7⟩
 ·have hke:l.take k=l:=List.take_of_length_le za
  refine En (Lx (gv (gw (Lh (Lt (Ls (La (Lt (Le (Dz ?_))))))))))
  refine bg (v:=.int .i64 (-1)) ?_
  exact⟨(-1),rfl,(by rw [<- hke,hp.2.1];rfl),hs3⟩
theorem yJ {w0 w:World}{L:List aI}{al:Option Addr}{cl:Nat}(l:List Int) (hll:l.length<=100000) (hr:∀ w,St w0 L w->ag w al l.length 1 (λk=>bG (l.getD k 0))) (hs:St w0 L w):Calls Tryz.prog 192 #[.slice al l.length cl,.func (.func 193) #[] #[]] w (aZ λrv w'=>rv=.bool (l.any (λx=>decide ((x:Int)>0)))/\St w0 L w'):=by
 refine bp Tryz.func192 Tryz.ntmps192 ?_
 refine En (Ls (La (Lt (Ls (Lg [2] (Lu (Dz ?_)))))))
 refine aF (f:=209) (args:=#[.slice al l.length cl,.func (.func 193) #[] #[]]) Tryz.call209 (yI l zc (λw h=>hr _ (h.drop 0)) hs) ?_
 rintro v4 w5 ⟨v1,rfl,hv2,hs3⟩
 refine Lo (aL (Lt (Le (Dz ?_))))
 refine bg (v:=.bool (decide ((v1:Int) >= 0))) ?_
 exact⟨congrArg Value.bool hv2,hs3⟩
theorem A3 {w0 w:World}{L:List aI}{bx:Nat}{p:Nat}{sa:Option Addr}{xn:Nat}{sc:Nat}{oa:Option Addr}{on:Nat}{oc:Nat}(q:aT) (n:Int) (hs:St w0 (ah bx #[zP p 0] 105::ah p #[.int .i64 n,.slice none 0 0,.slice sa xn sc,.slice none 0 0,.slice none 0 0,.slice none 0 0,.slice none 0 0,.slice none 0 0,.slice none 0 0,.slice none 0 0,.slice none 0 0,.slice none 0 0,.slice oa on oc] 178::L) w):Calls Tryz.prog 191 #[.agg (aT.cells q),zP bx 0] w (aZ λrv w'=>rv=.bool (decide ((q.rp:Int)>n))/\St w0 (ah bx #[zP p 0] 105::ah p #[.int .i64 n,.slice none 0 0,.slice sa xn sc,.slice none 0 0,.slice none 0 0,.slice none 0 0,.slice none 0 0,.slice none 0 0,.slice none 0 0,.slice none 0 0,.slice none 0 0,.slice none 0 0,.slice oa on oc] 178::L) w'):=by
 refine bp Tryz.func191 Tryz.ntmps191 ?_
 refine En (Ls (Lg [0] (Dz ?_)))
 refine ar.box rfl rfl zk (v:=.agg (aT.cells q)) zk hs (cs:=aT.cells q) zk ?_
 intro b1 w2 hs3
 refine Lo (aL (Lt (Ls (Dz ?_))))
 refine aE.aV [0,1,0,4,12,28,63,127] (.rd 0 (.rd 1 (.rd 2 (.rd 3 (.rd 4 (.rd 5 (.rd 6 (.rd 7 .done)))))))) zk zk ai zk hs3 ?_
 intro w4 hs5 hw6
 refine gY (Hl 1 0 0 hs5 (Hl 2 1 0 hs5 (Hl 5 2 0 hs5 Hz))) ?_
 refine Zt (Ze (?_))
 refine bg (v:=.bool (decide ((q.rp:Int)>n))) ?_
 have hs7:=hs5.dr 1
 exact⟨rfl,hs7⟩
theorem A4 {w0 w:World}{L:List aI}{al:Option Addr}{cl:Nat}{bx:Nat}{p:Nat}{sa:Option Addr}{xn:Nat}{sc:Nat}{oa:Option Addr}{on:Nat}{oc:Nat}(l:List aT) (n:Int) (hll:l.length<=100000) (hr:∀ w,St w0 L w->ag w al l.length 2 (λk=>aT.cells (l.getD k aR))) (hs:St w0 (ah bx #[zP p 0] 105::ah p #[.int .i64 n,.slice none 0 0,.slice sa xn sc,.slice none 0 0,.slice none 0 0,.slice none 0 0,.slice none 0 0,.slice none 0 0,.slice none 0 0,.slice none 0 0,.slice none 0 0,.slice none 0 0,.slice oa on oc] 178::L) w):Calls Tryz.prog 29 #[.slice al l.length cl,.func (.func 191) #[] #[zP bx 0]] w (aZ λrv w'=>rv=.bool (l.any (λq=>decide ((q.rp:Int)>n)))/\St w0 (ah bx #[zP p 0] 105::ah p #[.int .i64 n,.slice none 0 0,.slice sa xn sc,.slice none 0 0,.slice none 0 0,.slice none 0 0,.slice none 0 0,.slice none 0 0,.slice none 0 0,.slice none 0 0,.slice none 0 0,.slice none 0 0,.slice oa on oc] 178::L) w'):=by
 refine Calls.ret (mj l 191 bx (tv [ah bx #[zP p 0] 105,ah p #[.int .i64 n,.slice none 0 0,.slice sa xn sc,.slice none 0 0,.slice none 0 0,.slice none 0 0,.slice none 0 0,.slice none 0 0,.slice none 0 0,.slice none 0 0,.slice none 0 0,.slice none 0 0,.slice oa on oc] 178]) (λq=>decide ((q.rp:Int)>n)) hll Tryz.call191 (λq L w h=>?_) hr (St.ki (l:=[_,_]) hs)) ?_
 ·refine Calls.ret (A3 q n  (St.splits h)) ?_
  rintro v w2 ⟨rfl,h2⟩
  exact⟨rfl,St.ki (l:=[_,_]) h2⟩
 ·rintro v w2 ⟨rfl,h2⟩
  exact⟨rfl,St.splits h2⟩
theorem A5 (k:Nat):((aA k).toList.drop 5).any (λx=>decide ((x:Int)>0))=false:=zk
theorem aD.DW {w0 w:World}{L:List aI}(hs:St w0 L w) (j:Nat){b:Nat}{cs:Array Value}{T:TypeId}(off:Nat) (d:aD) (hj:L[j]?=some (ah b cs T)) (he:cs.extract off (off+11)=aD.cells d):ag w (some ⟨b,off+(5*1),none⟩) (d.toList.drop 5).length 1 (λk=>bG ((d.toList.drop 5).getD k 0)):=λ_=>by
 have hm:=aD.jU hs j off d hj he
 have hl:d.toList.length=11:=aD.len d
 refine⟨b,off+(5*1),rfl,λk hk i hi=>?_⟩
 have h1:5+k<11:=by rw [List.length_drop,hl] at hk;omega
 have h2:=ag.at hm (k:=5+k) (j:=i) (by rw [hl];exact h1) hi
 rw [show off+(5*1)+k*1+i=off+(5+k)*1+i by omega,h2]
 simp only [List.getD_eq_getElem?_getD,List.getElem?_drop]
def jB (va vb:aD):Bool:=(List.range 11).any λi=>decide (va.toList.getD i 0>vb.toList.getD i 0)
theorem kx {j k:Nat}(h:j<=k):jB (aA j) (aA k)=false:=by
 rw [jB,List.any_eq_false]
 intro i _
 rw [dL,dL]
 split<;>simp<;>omega
theorem vV {va vb:aD}{i:Nat}(hi:i<11) (h:decide (va.toList.getD i 0>vb.toList.getD i 0)=true):jB va vb=true:=List.any_eq_true.2 ⟨i,List.mem_range.2 hi,h⟩
theorem yK {p:Nat->Bool}{i:Nat}(h:(List.range i).any p=false) (h2:p i=false):(List.range (i+1)).any p=false:=by
 rw [List.range_succ,List.any_append,h]
 simp [h2]
theorem kz {w0 w:World}{L:List aI}(va:aD) (vb:aD) (hs:St w0 L w):Calls Tryz.prog 172 #[.agg (aD.cells va),.agg (aD.cells vb)] w (aZ λrv w'=>rv=.bool (jB va vb)/\St w0 L w'):=by
 refine bp Tryz.func172 Tryz.ntmps172 ?_
 refine En (Ls (Lg [0,1] (Dz ?_)))
 refine ar.box rfl rfl zk (v:=.agg (aD.cells va)) zk hs (cs:=aD.cells va) zk ?_
 intro b1 w2 hs3
 refine Lo (Dz ?_)
 refine ar.box rfl rfl zk (v:=.agg (aD.cells vb)) zk hs3 (cs:=aD.cells vb) zk ?_
 intro b4 w5 hs6
 refine Lo (aL (Lt (Ls (Ls (Dz ?_)))))
 refine bj (du 0 1 0 11 (aD.cells va) hs6 Hz) ?_
 refine Zt (Zb (?_))
 refine aE.loop (T:=Nat) (λgg=>[(3,zP b4 0),(7,.agg (aD.cells va)),(8,.int .i64 (gg:Nat))]) (λgg w=>(gg<=11/\((List.range gg).any λgg=>decide (va.toList.getD gg 0>vb.toList.getD gg 0))=false)/\St w0 (ah b4 (aD.cells vb) 41::ah b1 (aD.cells va) 41::L) w) (λgg=>11-gg) 0 [3,7,8] zk ⟨⟨za,rfl⟩,hs6⟩ ?_
 rintro i w7 ⟨hp0,hs8⟩
 have hp:i<=11/\((List.range i).any λi=>decide (va.toList.getD i 0>vb.toList.getD i 0))=false:=hp0
 have hs9:St w0 (ah b4 (aD.cells vb) 41::ah b1 (aD.cells va) 41::L) w7:=hs8
 refine Zn [(3,zP b4 0),(7,.agg (aD.cells va)),(8,.int .i64 (i:Nat))] ?_
 refine En (Ls (La (Lt (Ls (Dz ?_)))))
 refine Zi (((i:Nat):Int)<11) (λh10'=>?_) (λh10'=>?_)
 ·refine Zk (Zt (Zs (Zb (Zs (?_)))))
  refine bj (Hg 1 (.elem (.int .u64 (va.toList.getD i 0))) [.prop (0<=((i:Nat):Int)/\((i:Nat):Int)<(11:Int)),.prop ((aD.cells va)[Int.toNat (i:Nat)*1]?=some (.int .u64 (va.toList.getD i 0)))] (aB za (aB (by rw [Nat.mul_one];exact aD.at_ _ i za) av)) Hz) ?_
  refine Zt (Zs (?_))
  refine bj (Hx 2 ((i:Nat):Int) (11:Int) b4 0 1 (Hg 3 (.gen [.int .u64 (vb.toList.getD i 0)]) [.cell ⟨b4,0+(i*1),none⟩ (.int .u64 (vb.toList.getD i 0))] (aG (hs9.cell 0 rfl (aD.mW (off:=0) (d:=vb) zk za)) av) Hz)) ?_
  refine Zt (?_)
  refine Zi (((va.toList.getD i 0):Int)>(vb.toList.getD i 0)) (λh11'=>?_) (λh11'=>?_)
  ·refine En (Ls (La (Lt (Le (Ll (Ly (uk (Ll (Ly (Dz ?_))))))))))
   refine bg (v:=.bool true) ?_
   have hs12:=hs9.dr 2
   exact⟨(by rw [vV (i:=i) za (decide_eq_true h11')]),hs12⟩
  ·refine Zk (Zm (Zt (?_)))
   refine bj (cH 0 ((i:Nat)+1) Hz) ?_
   exact aw.back (i+1) [3,7,8] zk (by show 11-(i+1)<11-i;omega) ⟨⟨za,yK hp.2 (decide_eq_false h11')⟩,hs9⟩
 ·obtain rfl:11=i:=za
  refine En (Lx (gv (gw (Lh (Lt (Ls (La (Lt (Le (Dz ?_))))))))))
  refine bg (v:=.bool false) ?_
  have hs13:=hs9.dr 2
  exact⟨(by rw [show jB va vb=false from hp.2]),hs13⟩
theorem iO {m:an}(h:cZ m=true):m.bd.ql.length<=100:=by
 have h1:fx m.bd=true:=by
  unfold cZ at h
  split at h
  ·cases h
  ·split at h
   ·exact h
   ·cases h
 have:=(fJ h1).2.2
 omega
theorem tL {w0 w:World}{L:List aI}{p:Nat}(k:Nat) (bd:aK) (tg:aO) (lg:y9) (hm:fa (⟨2,((k:Nat)+1),aA k,bd,tg⟩:an)) (hmay:cZ (⟨2,((k:Nat)+1),aA k,bd,tg⟩:an)=true) (hq5:(bd.ql.any (λq=>decide ((q.rp:Int)>5)))=false) (hqs:Nn bd.qa bd.qc) (hr:∀ w,St w0 L w->ag w bd.qa bd.ql.length 2 (λk=>aT.cells (bd.ql.getD k aR))) (hs:St w0 (LO p 5 k lg::L) w):Calls Tryz.prog 170 #[zP p 0,.agg (an.cells (⟨2,((k:Nat)+1),aA k,bd,tg⟩:an))] w (aZ λrv w'=>rv=.bool true/\St w0 (LO p 5 k lg::L) w'):=by
 obtain⟨hg2,hs10⟩:=Bd.open hs
 have hs1:St w0 (ah p #[.int .i64 5,.slice none 0 0,.slice lg.sa lg.xs.length lg.sc,.slice none 0 0,.slice none 0 0,.slice none 0 0,.slice none 0 0,.slice none 0 0,.slice none 0 0,.slice none 0 0,.slice none 0 0,.slice none 0 0,.slice lg.oa lg.ol.length lg.oc] 178::Sl lg.sa lg.sc 43 121 an.cells lg.xs::Sl lg.oa lg.oc 262 2 gH.cells lg.ol::L) w:=hs10
 have hlq:bd.ql.length<=100:=iO hmay
 refine bp Tryz.func170 Tryz.ntmps170 ?_
 refine En (Ls (Lg [0,1] (Dz ?_)))
 refine ar.box rfl rfl zk (v:=zP p 0) zk hs1 (cs:=#[zP p 0]) zk ?_
 intro b3 w4 hs5
 refine Lo (Dz ?_)
 refine ar.box rfl rfl zk (v:=.agg (an.cells (⟨2,((k:Nat)+1),aA k,bd,tg⟩:an))) zk hs5 (cs:=an.cells (⟨2,((k:Nat)+1),aA k,bd,tg⟩:an)) zk ?_
 intro b6 w7 hs8
 refine Lo (aL (Lt (Ls (Ls (Dz ?_)))))
 refine aE.aV [0,1,3,7,15,31,15,79,207,463,1023,2047] (.rd 0 (.ef 1 (.rd 2 (.rd 3 (.rd 4 (.rd 5 (.rd 6 (.rd 7 (.rd 8 (.rd 9 (.rd 10 (.rd 11 .done)))))))))))) zk zk ai zk hs8 ?_
 intro w9 hs10 hw11
 refine Zj (du 0 0 0 121 (an.cells (⟨2,((k:Nat)+1),aA k,bd,tg⟩:an)) hs10 Hz) ?_
 refine aF (f:=28) (args:=#[.agg (an.cells (⟨2,((k:Nat)+1),aA k,bd,tg⟩:an))]) Tryz.call28 (gM (⟨2,((k:Nat)+1),aA k,bd,tg⟩:an) hm (λw h=>hr _ (h.drop 5)) hs10) ?_
 rintro v13 w14 ⟨rfl,hs12⟩
 refine Lo (Dz ?_)
 refine Zr 2 2 [] ?_
 refine di 8 false (congrArg not hmay) ?_
 refine gY (Hl 5 0 0 hs12 (Hl 6 1 0 hs12 (Hl 9 2 0 hs12 Hz))) ?_
 refine En (Lt (LF (Lk (Lt (Ls (Dz ?_))))))
 refine bL [4,13] (Hl 2 0 56 hs12 Hz) ?_
 have hs15:=(hs12.pl 2).pl 2
 refine aF (f:=29) (args:=#[.slice bd.qa bd.ql.length bd.qc,.func (.func 191) #[] #[zP b3 0]]) Tryz.call29 (A4 bd.ql 5 (by have:=iO hmay;simp only at this;omega) (λw h=>hr _ (h.drop 3)) hs15) ?_
 rintro v17 w18 ⟨rfl,hs16⟩
 refine Lo (Dz ?_)
 refine Zr 5 2 [] ?_
 refine di 23 true (congrArg not hq5) ?_
 refine Zj (Hl 8 0 0 hs16 (Hl 11 1 0 hs16 (Hg 12 (.cI (zL b6 (2+(5*1)) (((aA k).toList.drop 5).length) (11-5)) (.sub 5 11)) [.prop ((5:Int)=((5:Nat):Int)),.prop (((some (Operand.tmp 28))=none->(5:Nat)=0)/\((none:Option Operand)=none->(11:Nat)=11)/\(5:Nat)<=11/\(11:Nat)<=11),.prop (Value.slice (some (if 11=5 then Addr.mk b6 2 none else (Addr.mk b6 2 none).add (5*1))) (11-5) (11-5)=Value.slice (some ⟨b6,2+(5*1),none⟩) (((aA k).toList.drop 5).length) (11-5))] (aB za (aB ⟨(by first|(intro _;rfl)|(intro hc;cases hc)),(by first|(intro _;rfl)|(intro hc;cases hc)),za,za⟩ (aB (by rw [(show((aA k).toList.drop 5).length=11-5 from by rw [List.length_drop,aD.len])];exact jG za za) av))) Hz))) ?_
 refine aF (f:=192) (args:=#[zL b6 (2+(5*1)) (((aA k).toList.drop 5).length) (11-5),.func (.func 193) #[] #[]]) Tryz.call192 (yJ ((aA k).toList.drop 5) (by rw [List.length_drop,aD.len];decide) (λw h=>aD.DW h 2 2 (aA k) rfl zk) hs16) ?_
 rintro v20 w21 ⟨rfl,hs19⟩
 refine Lo (aL (Lt (Le (Dz ?_))))
 refine bg (v:=.bool (!(((aA k).toList.drop 5).any (λx=>decide ((x:Int)>0))))) ?_
 have hs22:=((hs19.pl 4).pl 4).pl 3
 have hs23:St w0 (LO p 5 k lg::ah b3 #[zP p 0] 105::ah b6 (an.cells (⟨2,((k:Nat)+1),aA k,bd,tg⟩:an)) 43::L) w21:=Bd.close hg2 hs22
 have hs24:=((hs23.pl 0).pl 2).pl 2
 have hs25:=hs24.dr 2
 exact⟨(by first|rfl|(rw [hq5,A5];rfl)),hs25⟩
theorem rM {w0 w:World}{L:List aI}{p:Nat}(k:Nat) (bd:aK) (tg:aO) (lg:y9) (hm:fa (⟨2,((k:Nat)+1),aA k,bd,tg⟩:an)) (hmay:cZ (⟨2,((k:Nat)+1),aA k,bd,tg⟩:an)=true) (hq5:(bd.ql.any (λq=>decide ((q.rp:Int)>5)))=false) (hqs:Nn bd.qa bd.qc) (hri:fl (⟨2,((k:Nat)+1),aA k,bd,tg⟩:an)=true) (hTab:∀ w,St w0 L w->cQ w) (hr:∀ w,St w0 L w->ag w bd.qa bd.ql.length 2 (λk=>aT.cells (bd.ql.getD k aR))) (hs:St w0 (LO p 5 k lg::L) w):Calls Tryz.prog 136 #[zP p 0,.agg (an.cells (⟨2,((k:Nat)+1),aA k,bd,tg⟩:an))] w (aZ λrv w'=>∃ (lg2:y9),rv=.int .i64 0/\St w0 (LO p 5 k lg2::L) w'):=by
 have hkm:k+1<=65536:=by have:=(gQ hmay).2.2;simp only at this;omega
 refine bp Tryz.func136 Tryz.ntmps136 ?_
 refine En (Ls (Lg [0] (Dz ?_)))
 refine ar.box rfl rfl zk (v:=.agg (an.cells (⟨2,((k:Nat)+1),aA k,bd,tg⟩:an))) zk hs (cs:=an.cells (⟨2,((k:Nat)+1),aA k,bd,tg⟩:an)) zk ?_
 intro b1 w2 hs3
 refine Lo (aL (Lt (Ls (Lb (Ls (La (Lt (LF (Ls (Dz ?_))))))))))
 refine bL [2] (du 1 0 0 121 (an.cells (⟨2,((k:Nat)+1),aA k,bd,tg⟩:an)) hs3 Hz) ?_
 have hs4:=hs3.pl 1
 refine aF Tryz.call170 (tL k bd tg lg hm hmay hq5 hqs (λw h=>hr _ (h.drop 1)) hs4) ?_
 rintro v6 w7 ⟨rfl,hs5⟩
 refine Lo (aL (Lt (LF (Ls (Dz ?_)))))
 refine bL [1] (du 0 1 0 121 (an.cells (⟨2,((k:Nat)+1),aA k,bd,tg⟩:an)) hs5 Hz) ?_
 refine aF Tryz.call171 (vJ (⟨2,((k:Nat)+1),aA k,bd,tg⟩:an) hm (λw h=>hTab w (h.drop 2)) (λw h=>hr _ (h.drop 2)) hs5) ?_
 rintro v9 w10 ⟨rfl,hs8⟩
 refine Lo (aL (Lt (Dz ?_)))
 refine cS (t:=!(fl (⟨2,((k:Nat)+1),aA k,bd,tg⟩:an))) (λhc=>absurd ((congrArg not hri).symm.trans hc) zf) (λ_=>?_)
 refine Zk (Zm (Zt (Zs (?_))))
 obtain⟨sa,sc,xs,oa,oc,ol⟩:=lg
 obtain⟨hg12,hs110⟩:=Bd.open hs8
 have hs11:St w0 (ah p #[.int .i64 5,.slice none 0 0,.slice sa xs.length sc,.slice none 0 0,.slice none 0 0,.slice none 0 0,.slice none 0 0,.slice none 0 0,.slice none 0 0,.slice none 0 0,.slice none 0 0,.slice none 0 0,.slice oa ol.length oc] 178::Sl sa sc 43 121 an.cells xs::Sl oa oc 262 2 gH.cells ol::ah b1 (an.cells (⟨2,((k:Nat)+1),aA k,bd,tg⟩:an)) 43::L) w10:=hs110
 have hxn:xs.length=k:=hg12.1
 have hol:ol.length=k:=hg12.2.1
 have hdp:∀ j,j<k->(xs.getD j dm).dp=aA j:=hg12.2.2
 refine aE.aV [0,0,2,6,1,17,63,127,255] (.rd 0 (.rd 1 (.rd 2 (.rd 3 (.rd 4 (.rd 5 (.rd 6 (.rd 7 (.rd 8 .done))))))))) zk zk ai zk hs11 ?_
 intro w13 hs14 hw15
 refine gY (Hl 2 3 0 hs14 (Hx 6 (1:Int) (11:Int) p 1 1 (Hl 7 0 2 hs14 Hz))) ?_
 refine Zt (Zs (?_))
 refine bj (qU 2 (xs.length:Nat) Hz) ?_
 refine Zt (Zs (Zb (Zs (?_))))
 refine bj (Hl 1 3 1 hs14 Hz) ?_
 refine Zt (?_)
 refine Zi ((((k:Nat)+1):Int)<=(xs.length:Nat)) (λh16'=>?_) (λh16'=>?_)
 ·exfalso;omega
 ·refine Zs (?_)
  refine aE.aV [0,1,0,4,15,31,63,127,255,511,1023,1023,3071,8191,16383,32767,1023,66559,262143,524287,1048575] (.rd 0 (.rd 1 (.rd 2 (.rd 3 (.rd 4 (.rd 5 (.rd 6 (.rd 7 (.rd 8 (.rd 9 (.rd 10 (.rd 11 (.rd 12 (.rd 13 (.rd 14 (.rd 15 (.rd 16 (.rd 17 (.ef 18 (.rd 19 (.rd 20 .done))))))))))))))))))))) zk zk ai zk hs14 ?_
  intro w17 hs18 hw19
  refine Zp 0 6 [(1,.gen [.int .u64 ((k:Nat)+1)]),(3,.cI (.int .u64 ((xs.length:Nat)+1)) (.gen []))] [(1,[.cell ⟨b1,1,none⟩ (.int .u64 ((k:Nat)+1))]),(3,[.prop (Value.int .u64 (IntKind.u64.wrap ((xs.length:Nat)+1))=Value.int .u64 ((xs.length:Nat)+1))])] (ak (aG (hs18.cell 3 rfl zk) av) (ak (aB (nB za za) av) cW)) ?_
  rcases Bool.eq_false_or_eq_true ((((k:Nat)+1):Int) == ((xs.length:Nat)+1)) with h20|h20
  ·refine di 41 true h20 ?_
   have h20':(((k:Nat)+1):Int)=((xs.length:Nat)+1):=dt h20
   refine Zr 6 4 [] ?_
   rcases Bool.eq_false_or_eq_true (decide (((xs.length:Nat):Int)>0)) with h21|h21
   ·refine di 45 true h21 ?_
    have h21':((xs.length:Nat):Int)>0:=of_decide_eq_true h21
    obtain⟨ab22,rfl⟩:=Sl.isSome (hs18.at_ 1 rfl) za
    refine Zj (Hg 12 (.cI (.int .u64 (xs.length-1:Nat)) (.gen [])) [.prop (Value.int .u64 (IntKind.u64.wrap ((xs.length:Nat)-1))=Value.int .u64 (xs.length-1:Nat))] (aB (Dn za za za) av) (Hx 13 ((xs.length-1:Nat):Int) ((xs.length:Nat):Int) ab22 0 121 (Hg 15 (.agg (aD.cells ((xs.getD (xs.length-1) dm).dp))) [.prop (Array.size (aD.cells ((xs.getD (xs.length-1) dm).dp))=11),.cells ⟨ab22,0+((xs.length-1)*121)+2,none⟩ (aD.cells ((xs.getD (xs.length-1) dm).dp))] (aB zk (dq (ag.all (hs18.rows 1 rfl xQ.size dm) zd (Nat.le_of_ble_eq_true zk) zk) av)) (du 17 3 2 11 (aD.cells (aA k)) hs18 Hz)))) ?_
    refine aF Tryz.call172 (kz ((xs.getD (xs.length-1) dm).dp) (aA k) hs18) ?_
    rintro v25 w26 ⟨rfl,hs24⟩
    refine Lo (aL (Lt (Dz ?_)))
    refine cS (t:=jB ((xs.getD (xs.length-1) dm).dp) (aA k)) (λh27=>?_) (λh27=>?_)
    ·rw [hdp _ za,kx za] at h27;cases h27
    ·refine Zs (Zs (?_))
     refine bj (Hl 1 3 1 hs24 (qU 3 ((xs.length:Nat)+1) Hz)) ?_
     refine Zt (?_)
     refine Zi ((((k:Nat)+1):Int)>((xs.length:Nat)+1)) (λh28'=>?_) (λh28'=>?_)
     ·exfalso;omega
     ·have hs29:St w0 (LO p 5 k (⟨some ⟨ab22,0,none⟩,sc,xs,oa,oc,ol⟩)::ah b1 (an.cells (⟨2,((k:Nat)+1),aA k,bd,tg⟩:an)) 43::L) w26:=Bd.close hg12 hs24
      refine aE.aV [0,1,0,4,15,31] (.rd 0 (.rd 1 (.rd 2 (.ef 3 (.ef 4 (.rd 5 .done)))))) zk zk ai zk hs29 ?_
      intro w30 hs31 hw32
      refine Zj (du 1 1 2 11 (aD.cells (aA k)) hs31 Hz) ?_
      refine aF Tryz.call69 (gB 5 k (⟨some ⟨ab22,0,none⟩,sc,xs,oa,oc,ol⟩) zc hs31) ?_
      rintro v34 w35 ⟨rfl,hs33⟩
      refine⟨bw (n:=[.prop (Array.size (aD.cells (aA k))=11),.cells ⟨b1,2,none⟩ (aD.cells (aA k))]) zk (aB zk (dq (hs33.cells 1 2 rfl zk) av)),?_⟩
      refine aF Tryz.call172 (kz (aA k) (aA k) hs33) ?_
      rintro v37 w38 ⟨rfl,hs36⟩
      refine Lo (aL (Lt (Dz ?_)))
      refine cS (t:=jB (aA k) (aA k)) (λh39=>?_) (λh39=>?_)
      ·rw [kx (Nat.le_refl _)] at h39;cases h39
      ·refine En (Lk (Lm (Lt (Ls (La (Lt (Le (Dz ?_))))))))
       refine bg (v:=.int .i64 0) ?_
       have hs40:=(hs36.pl 0).pl 1
       have hs41:=hs40.dr 1
       exact⟨⟨some ⟨ab22,0,none⟩,sc,xs,oa,oc,ol⟩,rfl,hs41⟩
   ·refine di 45 false h21 ?_
    have h21':¬ (((xs.length:Nat):Int)>0):=of_decide_eq_false h21
    refine En (Lu (Dz ?_))
    refine ar.skip rfl zk cK ?_
    refine En (aL (Lt (LF (Ls (Ls (Dz ?_))))))
    refine bj (Hl 1 3 1 hs18 (qU 3 ((xs.length:Nat)+1) Hz)) ?_
    refine Zt (?_)
    refine Zi ((((k:Nat)+1):Int)>((xs.length:Nat)+1)) (λh42'=>?_) (λh42'=>?_)
    ·exfalso;omega
    ·have hs43:St w0 (LO p 5 k (⟨sa,sc,xs,oa,oc,ol⟩)::ah b1 (an.cells (⟨2,((k:Nat)+1),aA k,bd,tg⟩:an)) 43::L) w17:=Bd.close hg12 hs18
     refine aE.aV [0,1,0,4,15,31] (.rd 0 (.rd 1 (.rd 2 (.ef 3 (.ef 4 (.rd 5 .done)))))) zk zk ai zk hs43 ?_
     intro w44 hs45 hw46
     refine Zj (du 1 1 2 11 (aD.cells (aA k)) hs45 Hz) ?_
     refine aF Tryz.call69 (gB 5 k (⟨sa,sc,xs,oa,oc,ol⟩) zc hs45) ?_
     rintro v48 w49 ⟨rfl,hs47⟩
     refine⟨bw (n:=[.prop (Array.size (aD.cells (aA k))=11),.cells ⟨b1,2,none⟩ (aD.cells (aA k))]) zk (aB zk (dq (hs47.cells 1 2 rfl zk) av)),?_⟩
     refine aF Tryz.call172 (kz (aA k) (aA k) hs47) ?_
     rintro v51 w52 ⟨rfl,hs50⟩
     refine Lo (aL (Lt (Dz ?_)))
     refine cS (t:=jB (aA k) (aA k)) (λh53=>?_) (λh53=>?_)
     ·rw [kx (Nat.le_refl _)] at h53;cases h53
     ·refine En (Lk (Lm (Lt (Ls (La (Lt (Le (Dz ?_))))))))
      refine bg (v:=.int .i64 0) ?_
      have hs54:=(hs50.pl 0).pl 1
      have hs55:=hs54.dr 1
      exact⟨⟨sa,sc,xs,oa,oc,ol⟩,rfl,hs55⟩
  ·refine di 41 false h20 ?_
   have h20':¬ ((((k:Nat)+1):Int)=((xs.length:Nat)+1)):=dH h20
   exfalso;omega
theorem yL {w0 w:World}{L:List aI}{ab:Nat}{aoff:Nat}{ac:Nat}(l:List aT) (hl:l.length<=1000000) (hrow:∀ w,St w0 L w->ag w (some ⟨ab,aoff,none⟩) l.length 2 (λk=>aT.cells (l.getD k aR))) (hs:St w0 L w):Calls Tryz.prog 173 #[zL ab aoff l.length ac] w (aZ λrv w'=>∃ (ao:Option Addr) (co:Nat),rv=.slice ao l.length co/\St w0 (Sl ao co 81 2 aT.cells l::L) w'):=by
 refine bp Tryz.func173 Tryz.ntmps173 ?_
 refine En (Ls (La (Lt (Ls (Ls (La (Lt (LF (Lk (Lt (Ls (Lg [0,2] (Dz ?_)))))))))))))
 refine ar.eA rfl zk (t:=37) (e:=81) zk zk (ti:=Tryz.t81) zk hs ?_
 intro b1 w2 hs3 hz4
 have hs5:St w0 (Sl (some ⟨b1,0,none⟩) 0 81 2 aT.cells ([]:List aT)::L) w2:=St.ey (l:=([]:List aT)) (f:=aT.cells) hs3 hz4 mX.size zh zk
 refine Lo (Lu (Dz ?_))
 refine ar.append rfl zk wP mX (ad:=some ⟨b1,0,none⟩) (c:=0) (xs:=([]:List aT)) (ys:=l) (adx:=some ⟨ab,aoff,none⟩) (cx:=ac) aR zk hs5 (hrow _ (hs5.drop 1)) (λh=>nomatch h) zN zN ?_
 intro ad8 c9 w6 hs7
 refine Lo (aL (Lt (Le (Dz ?_))))
 refine bg (v:=.slice ad8 l.length c9) ?_
 exact⟨ad8,c9,zG,hs7⟩
theorem yM {w0 w:World}{L:List aI}(hs:St w0 L w):Calls Tryz.prog 173 #[.slice none 0 0] w (aZ λrv w'=>rv=.slice none 0 0/\St w0 L w'):=by
 refine bp Tryz.func173 Tryz.ntmps173 ?_
 refine En (Ls (La (Lt (Ls (Ls (La (Lt (LT (Ls (La (Lt (Le (Ly (Dz ?_))))))))))))))
 refine bg (v:=.slice none 0 0) ?_
 exact⟨rfl,hs⟩
theorem yN {w0 w:World}{L:List aI}{ac:Nat}(a:Addr) (hs:St w0 L w):Calls Tryz.prog 173 #[.slice (some a) (([]:List aT).length) ac] w (aZ λrv w'=>∃ (ao:Option Addr) (co:Nat),rv=.slice ao (([]:List aT).length) co/\St w0 (Sl ao co 81 2 aT.cells ([]:List aT)::L) w'):=by
 refine bp Tryz.func173 Tryz.ntmps173 ?_
 refine En (Ls (La (Lt (Ls (Ls (La (Lt (LF (Lk (Lt (Ls (Lg [0,2] (Dz ?_)))))))))))))
 refine ar.eA rfl zk (t:=37) (e:=81) zk zk (ti:=Tryz.t81) zk hs ?_
 intro b1 w2 hs3 hz4
 have hs5:St w0 (Sl (some ⟨b1,0,none⟩) 0 81 2 aT.cells ([]:List aT)::L) w2:=St.ey (l:=([]:List aT)) (f:=aT.cells) hs3 hz4 mX.size zh zk
 refine Lo (Lu (Dz ?_))
 refine ar.append rfl zk wP mX (ad:=some ⟨b1,0,none⟩) (c:=0) (xs:=([]:List aT)) (ys:=([]:List aT)) (adx:=some a) (cx:=ac) aR zk hs5 (ag.nil _ _ _) (λh=>nomatch h) zN zN ?_
 intro ad8 c9 w6 hs7
 refine Lo (aL (Lt (Le (Dz ?_))))
 refine bg (v:=.slice ad8 (([]:List aT).length) c9) ?_
 exact⟨ad8,c9,rfl,hs7⟩
theorem A6 {w0 w:World}{L:List aI}{al:Option Addr}{cl:Nat}(l:List aT) (hl:l.length<=1000000) (hsm:Nn al cl) (hr:∀ w,St w0 L w->ag w al l.length 2 (λk=>aT.cells (l.getD k aR))) (hs:St w0 L w):Calls Tryz.prog 173 #[.slice al l.length cl] w (aZ λrv w'=>∃ (ao:Option Addr) (co:Nat),rv=.slice ao l.length co/\St w0 (Sl ao co 81 2 aT.cells l::L) w'):=by
 cases al with
 | none =>
  have hl0:l=[]:=by
   cases l with
   | nil=>rfl
   | cons x q=>obtain⟨b,off,e⟩:=ag.isSome (hr _ hs) (Nat.succ_pos _);cases e
  subst hl0
  obtain rfl:cl=0:=hsm rfl
  refine Calls.ret (yM hs) ?_
  rintro v w1 ⟨rfl,h⟩
  exact⟨none,0,rfl,St.bW h 81 2 aT.cells⟩
 | some a =>
  cases l with
  | nil=>exact yN a hs
  | cons x q =>
   obtain⟨b,off,e⟩:=ag.isSome (hr _ hs) (Nat.succ_pos _)
   cases e
   exact yL (x::q) hl hr hs
theorem vW {w0 w:World}{L:List aI}(m:an) (hqs:Nn m.bd.qa m.bd.qc) (hql:m.bd.ql.length<=1000000) (hr:∀ w,St w0 L w->ag w m.bd.qa m.bd.ql.length 2 (λk=>aT.cells (m.bd.ql.getD k aR))) (hs:St w0 L w):Calls Tryz.prog 137 #[.agg (an.cells m)] w (aZ λrv w'=>∃ (mo2:an),rv=.agg (an.cells mo2)/\mo2.dp=m.dp/\St w0 L w'):=by
 refine bp Tryz.func137 Tryz.ntmps137 ?_
 refine En (Ls (Lg [0,1] (Dz ?_)))
 refine ar.box rfl rfl zk (v:=.agg (an.cells m)) zk hs (cs:=an.cells m) zk ?_
 intro b1 w2 hs3
 refine Lo (Dz ?_)
 refine ar.alloc rfl rfl zk (z:=.agg (an.cells dm)) zk hs3 (cs:=an.cells dm) zk ?_
 intro b4 w5 hs6
 refine Lo (Ld (Lt (Ls (Dz ?_))))
 refine bL [3,6] (Hl 2 1 56 hs6 Hz) ?_
 refine aF Tryz.call173 (A6 m.bd.ql hql hqs (λw h=>hr _ (h.drop 2)) hs6) ?_
 rintro v10 w11 ⟨ao7,co8,rfl,hs9⟩
 refine Lo (Lu (Dz ?_))
 refine Zv (b:=b1) (off:=56) (v:=.slice ao7 m.bd.ql.length co8) (ti:=Tryz.t37) zk hs9 2 (cs':=an.cells (⟨m.og,m.nr,m.dp,(⟨m.bd.kd,m.bd.vw,m.bd.k,m.bd.rq,ao7,co8,m.bd.ql,m.bd.dg⟩:aK),m.tg⟩:an)) ?_
 intro w12 hs13
 refine Lo (Ld (Lt (Ls (Dz ?_))))
 refine bL [1] (du 0 2 0 121 (an.cells (⟨m.og,m.nr,m.dp,(⟨m.bd.kd,m.bd.vw,m.bd.k,m.bd.rq,ao7,co8,m.bd.ql,m.bd.dg⟩:aK),m.tg⟩:an)) hs13 Hz) ?_
 refine Zv (b:=b4) (off:=0) (v:=.agg (an.cells (⟨m.og,m.nr,m.dp,(⟨m.bd.kd,m.bd.vw,m.bd.k,m.bd.rq,ao7,co8,m.bd.ql,m.bd.dg⟩:aK),m.tg⟩:an))) (ti:=Tryz.t43) zk hs13 1 (cs':=an.cells (⟨m.og,m.nr,m.dp,(⟨m.bd.kd,m.bd.vw,m.bd.k,m.bd.rq,ao7,co8,m.bd.ql,m.bd.dg⟩:aK),m.tg⟩:an)) ?_
 intro w14 hs15
 refine Lo (Ld (Lt (Le (Dz ?_))))
 refine aw.done (.inl rfl) (v:=.agg (an.cells (⟨m.og,m.nr,m.dp,(⟨m.bd.kd,m.bd.vw,m.bd.k,m.bd.rq,ao7,co8,m.bd.ql,m.bd.dg⟩:aK),m.tg⟩:an))) (λa hf=>ct rfl zk (ti:=Tryz.t43) zk zk (vs:=an.cells (⟨m.og,m.nr,m.dp,(⟨m.bd.kd,m.bd.vw,m.bd.k,m.bd.rq,ao7,co8,m.bd.ql,m.bd.dg⟩:aK),m.tg⟩:an)) zk (hs15.cells 1 0 rfl zk) a hf) ?_
 have hs16:=hs15.dr 3
 exact⟨(⟨m.og,m.nr,m.dp,(⟨m.bd.kd,m.bd.vw,m.bd.k,m.bd.rq,ao7,co8,m.bd.ql,m.bd.dg⟩:aK),m.tg⟩:an),rfl,rfl,hs16⟩
theorem C5 {xs:List an}{k:Nat}{m:an}(hx:xs.length=k) (hd:∀ j,j<k->(xs.getD j dm).dp=aA j) (hm:m.dp=aA k):∀ j,j<k+1->((xs++[m]).getD j dm).dp=aA j:=by
 intro j hj
 rw [List.getD_eq_getElem?_getD]
 rcases Nat.lt_or_ge j k with h|h
 ·rw [List.getElem?_append_left za,<- List.getD_eq_getElem?_getD]
  exact hd j h
 ·obtain rfl:j=k:=za
  rw [List.getElem?_append_right za,hx,Nat.sub_self]
  exact hm
theorem vX {w0 w:World}{L:List aI}{p:Nat}(k:Nat) (bd:aK) (tg:aO) (lg:y9) (hm:fa (⟨2,((k:Nat)+1),aA k,bd,tg⟩:an)) (hmay:cZ (⟨2,((k:Nat)+1),aA k,bd,tg⟩:an)=true) (hq5:(bd.ql.any (λq=>decide ((q.rp:Int)>5)))=false) (hqs:Nn bd.qa bd.qc) (hri:fl (⟨2,((k:Nat)+1),aA k,bd,tg⟩:an)=true) (hTab:∀ w,St w0 L w->cQ w) (hr:∀ w,St w0 L w->ag w bd.qa bd.ql.length 2 (λk=>aT.cells (bd.ql.getD k aR))) (hs:St w0 (LO p 5 k lg::L) w):Calls Tryz.prog 102 #[zP p 0,.agg (an.cells (⟨2,((k:Nat)+1),aA k,bd,tg⟩:an))] w (aZ λrv w'=>∃ (lg2:y9),rv=.int .i64 0/\St w0 (LO p 5 (k+1) lg2::L) w'):=by
 have hkm:k+1<=65536:=by have:=(gQ hmay).2.2;simp only at this;omega
 have hlq:bd.ql.length<=100:=iO hmay
 refine bp Tryz.func102 Tryz.ntmps102 ?_
 refine En (Ls (Lg [0] (Dz ?_)))
 refine ar.box rfl rfl zk (v:=.agg (an.cells (⟨2,((k:Nat)+1),aA k,bd,tg⟩:an))) zk hs (cs:=an.cells (⟨2,((k:Nat)+1),aA k,bd,tg⟩:an)) zk ?_
 intro b1 w2 hs3
 refine Lo (aL (Lt (Ls (Ls (Dz ?_)))))
 refine bL [2] (du 1 0 0 121 (an.cells (⟨2,((k:Nat)+1),aA k,bd,tg⟩:an)) hs3 Hz) ?_
 have hs4:=hs3.pl 1
 refine aF Tryz.call136 (rM k bd tg lg hm hmay hq5 hqs hri (λw h=>hTab w (h.drop 1)) (λw h=>hr _ (h.drop 1)) hs4) ?_
 rintro v7 w8 ⟨lg5,rfl,hs6⟩
 refine Lo (aL (Lt (Ls (La (Lt (LF (Lk (Lt (Ls (Dz ?_))))))))))
 obtain⟨sa,sc,xs,oa,oc,ol⟩:=lg5
 obtain⟨hg10,hs90⟩:=Bd.open hs6
 have hs9:St w0 (ah p #[.int .i64 5,.slice none 0 0,.slice sa xs.length sc,.slice none 0 0,.slice none 0 0,.slice none 0 0,.slice none 0 0,.slice none 0 0,.slice none 0 0,.slice none 0 0,.slice none 0 0,.slice none 0 0,.slice oa ol.length oc] 178::Sl sa sc 43 121 an.cells xs::Sl oa oc 262 2 gH.cells ol::ah b1 (an.cells (⟨2,((k:Nat)+1),aA k,bd,tg⟩:an)) 43::L) w8:=hs90
 have hxn:xs.length=k:=hg10.1
 have hol:ol.length=k:=hg10.2.1
 have hdp:∀ j,j<k->(xs.getD j dm).dp=aA j:=hg10.2.2
 refine aE.aV [0,0,2,6,1,17,63,127] (.rd 0 (.rd 1 (.rd 2 (.rd 3 (.rd 4 (.rd 5 (.rd 6 (.rd 7 .done)))))))) zk zk ai zk hs9 ?_
 intro w11 hs12 hw13
 refine gY (Hl 2 3 0 hs12 (Hx 6 (1:Int) (11:Int) p 1 1 Hz)) ?_
 refine Zt (Zs (?_))
 refine aE.aV [0,0,2,6,14,0,32,96,0,256,768,1792,4064,8160,16382,32767,65535,131071] (.rd 0 (.rd 1 (.rd 2 (.rd 3 (.rd 4 (.rd 5 (.rd 6 (.rd 7 (.rd 8 (.rd 9 (.rd 10 (.rd 11 (.rd 12 (.ef 13 (.ef 14 (.rd 15 (.rd 16 (.ef 17 .done)))))))))))))))))) zk zk ai zk hs12 ?_
 intro w14 hs15 hw16
 refine Zj (Hl 4 0 12 hs15 (Hl 6 3 0 hs15 (Hl 10 0 2 hs15 Hz))) ?_
 refine ar.aW rfl zk (t:=176) (e:=262) (n:=1) (ps:=[(0,.agg (gH.cells (⟨1,(xs.length:Nat)⟩:gH)))]) zk zk (ti:=Tryz.t262) (z:=.agg (gH.cells Ed)) zk zk zf zf (cs:=gH.cells (⟨1,(xs.length:Nat)⟩:gH)) zk hs15 ?_
 intro b17 w18 hs19 hz20
 have hs21:St w0 (Sl (some ⟨b17,0,none⟩) 1 262 2 gH.cells ([((⟨1,(xs.length:Nat)⟩:gH):gH)])::ah p #[.int .i64 5,.slice none 0 0,.slice sa xs.length sc,.slice none 0 0,.slice none 0 0,.slice none 0 0,.slice none 0 0,.slice none 0 0,.slice none 0 0,.slice none 0 0,.slice none 0 0,.slice none 0 0,.slice oa ol.length oc] 178::Sl sa sc 43 121 an.cells xs::Sl oa oc 262 2 gH.cells ol::ah b1 (an.cells (⟨2,((k:Nat)+1),aA k,bd,tg⟩:an)) 43::L) w18:=St.ey (l:=[((⟨1,(xs.length:Nat)⟩:gH):gH)]) (f:=gH.cells) hs19 hz20 C4.size zh zk
 refine⟨bw (n:=[.cell ⟨p,12,none⟩ (.slice oa ol.length oc)]) zk (aG (hs21.cell 1 rfl zk) av),?_⟩
 have hs24:=hs21.pl 3
 refine ar.append rfl zk DV C4 (ad:=oa) (c:=oc) (xs:=ol) (ys:=[((⟨1,(xs.length:Nat)⟩:gH):gH)]) (adx:=some ⟨b17,0,none⟩) (cx:=1) Ed zk hs24 (hs24.rows 1 rfl C4.size Ed) (λh=>nomatch h) zF zF ?_
 intro ad25 c26 w22 hs23
 refine Lo (Lu (Dz ?_))
 refine Zv (b:=p) (off:=12) (v:=.slice ad25 ((ol++([((⟨1,(xs.length:Nat)⟩:gH):gH)])).length) c26) (ti:=Tryz.t176) zk hs23 2 (cs':=#[.int .i64 5,.slice none 0 0,.slice sa xs.length sc,.slice none 0 0,.slice none 0 0,.slice none 0 0,.slice none 0 0,.slice none 0 0,.slice none 0 0,.slice none 0 0,.slice none 0 0,.slice none 0 0,.slice ad25 ((ol++([((⟨1,(xs.length:Nat)⟩:gH):gH)])).length) c26]) ?_
 intro w27 hs28
 refine Lo (Ld (Lt (Ls (Dz ?_))))
 refine aE.aV [0,0,2,6,0,16,48,126,255,511] (.rd 0 (.rd 1 (.rd 2 (.rd 3 (.rd 4 (.ef 5 (.ef 6 (.ef 7 (.rd 8 (.ef 9 .done)))))))))) zk zk ai zk hs28 ?_
 intro w29 hs30 hw31
 refine Zj (Hl 3 2 2 hs30 (du 4 4 0 121 (an.cells (⟨2,((k:Nat)+1),aA k,bd,tg⟩:an)) hs30 Hz)) ?_
 refine aF Tryz.call137 (vW (⟨2,((k:Nat)+1),aA k,bd,tg⟩:an) hqs (show bd.ql.length<=_ from by omega) (λw h=>hr _ (h.drop 5)) hs30) ?_
 rintro v35 w36 ⟨mo32,rfl,hdm33,hs34⟩
 refine⟨bw (n:=[.cell ⟨p,2,none⟩ (.slice sa xs.length sc)]) zk (aG (hs34.cell 2 rfl zk) av),?_⟩
 refine ar.aW rfl zk (t:=174) (e:=43) (n:=1) (ps:=[(0,.agg (an.cells mo32))]) zk zk (ti:=Tryz.t43) (z:=.agg (an.cells dm)) zk zk zf zf (cs:=an.cells mo32) zk hs34 ?_
 intro b37 w38 hs39 hz40
 have hs41:St w0 (Sl (some ⟨b37,0,none⟩) 1 43 121 an.cells ([(mo32:an)])::Sl ad25 c26 262 2 gH.cells (ol++([((⟨1,(xs.length:Nat)⟩:gH):gH)]))::Sl (some ⟨b17,0,none⟩) 1 262 2 gH.cells ([((⟨1,(xs.length:Nat)⟩:gH):gH)])::ah p #[.int .i64 5,.slice none 0 0,.slice sa xs.length sc,.slice none 0 0,.slice none 0 0,.slice none 0 0,.slice none 0 0,.slice none 0 0,.slice none 0 0,.slice none 0 0,.slice none 0 0,.slice none 0 0,.slice ad25 ((ol++([((⟨1,(xs.length:Nat)⟩:gH):gH)])).length) c26] 178::Sl sa sc 43 121 an.cells xs::ah b1 (an.cells (⟨2,((k:Nat)+1),aA k,bd,tg⟩:an)) 43::L) w38:=St.ey (l:=[(mo32:an)]) (f:=an.cells) hs39 hz40 xQ.size zh zk
 refine⟨bw (n:=[.cell ⟨p,2,none⟩ (.slice sa xs.length sc)]) zk (aG (hs41.cell 3 rfl zk) av),?_⟩
 have hs44:=hs41.pl 4
 refine ar.append rfl zk CK xQ (ad:=sa) (c:=sc) (xs:=xs) (ys:=[(mo32:an)]) (adx:=some ⟨b37,0,none⟩) (cx:=1) dm zk hs44 (hs44.rows 1 rfl xQ.size dm) (λh=>nomatch h) zF zF ?_
 intro ad45 c46 w42 hs43
 refine Lo (Lu (Dz ?_))
 refine Zv (b:=p) (off:=2) (v:=.slice ad45 ((xs++([(mo32:an)])).length) c46) (ti:=Tryz.t174) zk hs43 4 (cs':=#[.int .i64 5,.slice none 0 0,.slice ad45 ((xs++([(mo32:an)])).length) c46,.slice none 0 0,.slice none 0 0,.slice none 0 0,.slice none 0 0,.slice none 0 0,.slice none 0 0,.slice none 0 0,.slice none 0 0,.slice none 0 0,.slice ad25 ((ol++([((⟨1,(xs.length:Nat)⟩:gH):gH)])).length) c26]) ?_
 intro w47 hs48
 refine Lo (Ld (Lt (Ls (La (Lt (Le (Dz ?_)))))))
 refine bg (v:=.int .i64 0) ?_
 have hs49:=((hs48.pl 2).pl 1).pl 4
 have hs50:St w0 (LO p 5 (k+1) (⟨ad45,c46,xs++([(mo32:an)]),ad25,c26,ol++([((⟨1,(xs.length:Nat)⟩:gH):gH)])⟩)::Sl (some ⟨b37,0,none⟩) 1 43 121 an.cells ([(mo32:an)])::Sl (some ⟨b17,0,none⟩) 1 262 2 gH.cells ([((⟨1,(xs.length:Nat)⟩:gH):gH)])::ah b1 (an.cells (⟨2,((k:Nat)+1),aA k,bd,tg⟩:an)) 43::L) w47:=Bd.close ⟨by rw [List.length_append,hxn];rfl,by rw [List.length_append,hol];rfl,C5 hxn hdp hdm33⟩ hs49
 have hs51:=(((hs50.pl 0).pl 3).pl 3).pl 3
 have hs52:=hs51.dr 3
 exact⟨⟨ad45,c46,xs++([(mo32:an)]),ad25,c26,ol++([((⟨1,(xs.length:Nat)⟩:gH):gH)])⟩,rfl,hs52⟩
abbrev kA:Int->Value:=λn=>.int .u64 n
theorem DX:dI Tryz.prog 249 kA mI 31 3 :=
 dI.now zk ⟨.int .u64,zk,λa b=>by simp [Instr.sameNow,kA,ib],.inl ⟨_,rfl⟩⟩ (λa=>by simp [Instr.sameBits,kA]) (λem a w=>rfl)
theorem eR {w0 w:World}{L:List aI}(hs:St w0 L w):Calls Tryz.prog 91 #[] w (aZ λrv w'=>∃ (pp:Nat) (eb:Nat) (ec:Nat) (vm:Nat),rv=zP pp 0/\St w0 (ah pp #[.int .u64 0,zL eb 0 1 ec,.map (some vm)] 251::Sl (some ⟨eb,0,none⟩) ec 31 1 bG ([(0:Int)])::L) w'):=by
 refine bp Tryz.func91 Tryz.ntmps91 ?_
 refine En (Ls (La (Lt (Ls (Lg [0,1,2,5] (Dz ?_))))))
 refine ar.aW rfl zk (t:=147) (e:=31) (n:=1) (ps:=[(0,.int .u64 0)]) zk zk (ti:=Tryz.t31) (z:=.int .u64 0) zk zk zf zf (cs:=#[.int .u64 0]) zk hs ?_
 intro b1 w2 hs3 hz4
 have hs5:St w0 (Sl (some ⟨b1,0,none⟩) 1 31 1 bG ([(0:Int)])::L) w2:=St.ey (l:=[(0:Int)]) (f:=bG) hs3 hz4 Cj.size zh zk
 refine Lo (Dz ?_)
 refine ar.makeMap (α:=Int) (β:=Int) rfl rfl zk kA mI hs5 ?_
 intro r6 w7 hs8
 refine Lo (Dz ?_)
 refine ar.insert rfl zk DX (r:=r6) (k:=0) (v:=0) zk hs8 0 rfl ?_
 intro w9 hs10
 refine Lo (Lu (Dz ?_))
 refine ar.box rfl rfl zk (v:=.agg #[.int .u64 0,zL b1 0 1 1,.map (some r6)]) zk hs10 (cs:=#[.int .u64 0,zL b1 0 1 1,.map (some r6)]) zk ?_
 intro b11 w12 hs13
 refine Lo (aL (Lt (Le (Dz ?_))))
 refine bg (v:=zP b11 0) ?_
 have hs14:=((hs13.pl 2).pl 1).pl 2
 have hs15:=hs14.dr 1
 exact⟨b11,b1,1,r6,rfl,hs15⟩
theorem tM {w0 w:World}{L:List aI}{pp:Nat}{eb:Nat}{ec:Nat}{vm:Nat}(gr:Int) (hs:St w0 (ah pp #[.int .u64 gr,zL eb 0 1 ec,.map (some vm)] 251::Sl (some ⟨eb,0,none⟩) ec 31 1 bG ([(0:Int)])::L) w):Calls Tryz.prog 215 #[zP pp 0] w (aZ λrv w'=>rv=.int .u64 0/\St w0 (ah pp #[.int .u64 gr,zL eb 0 1 ec,.map (some vm)] 251::Sl (some ⟨eb,0,none⟩) ec 31 1 bG ([(0:Int)])::L) w'):=by
 refine bp Tryz.func215 Tryz.ntmps215 ?_
 refine En (Ls (La (Lt (Ls (Dz ?_)))))
 refine aE.aV [0,1,3,7,0,16,48,112,240,496,1023,2047,4095] (.rd 0 (.rd 1 (.rd 2 (.rd 3 (.rd 4 (.rd 5 (.rd 6 (.rd 7 (.rd 8 (.rd 9 (.rd 10 (.rd 11 (.rd 12 .done))))))))))))) zk zk ai zk hs ?_
 intro w1 hs2 hw3
 refine gY (Hl 3 0 1 hs2 (Hl 7 0 1 hs2 (Hx 10 (0:Int) (1:Int) eb 0 1 (Hg 11 (.gen [.int .u64 (0:Int)]) [.cell ⟨eb,0,none⟩ (.int .u64 (0:Int))] (aG (ag.cC (hs2.rows 1 rfl Cj.size (0:Int)) (k:=0) zd (j:=0) zf zk) av) Hz)))) ?_
 refine Zt (Ze (?_))
 refine bg (v:=.int .u64 (0:Int)) ?_
 exact⟨rfl,hs2⟩
theorem tN {w0 w:World}{L:List aI}{pp:Nat}{eb:Nat}{ec:Nat}{vm:Nat}(gr:Int) (v:Int) (hs:St w0 (ah pp #[.int .u64 gr,zL eb 0 1 ec,.map (some vm)] 251::Sl (some ⟨eb,0,none⟩) ec 31 1 bG ([(0:Int)])::L) w):Calls Tryz.prog 217 #[zP pp 0,.int .u64 v] w (aZ λrv w'=>∃ (ob2:Bool),rv=.bool ob2/\St w0 (ah pp #[.int .u64 gr,zL eb 0 1 ec,.map (some vm)] 251::Sl (some ⟨eb,0,none⟩) ec 31 1 bG ([(0:Int)])::L) w'):=by
 refine bp Tryz.func217 Tryz.ntmps217 ?_
 refine En (Ls (La (Lt (Ls (Lg [13] (Dz ?_))))))
 refine Zp 0 11 [(7,.gen [.int .u64 gr])] [(7,[.cell ⟨pp,0,none⟩ (.int .u64 gr)])] (ak (aG (hs.cell 0 rfl zk) av) cW) ?_
 rcases Bool.eq_false_or_eq_true ((v:Int) == gr) with h1|h1
 ·refine di 15 true h1 ?_
  have h1':(v:Int)=gr:=dt h1
  refine En (Lu (Dz ?_))
  refine aF Tryz.call215 (tM gr hs) ?_
  rintro v3 w4 ⟨rfl,hs2⟩
  refine Lo (aL (Lt (Le (Dz ?_))))
  refine bg (v:=.bool ((v:Int) == 0)) ?_
  exact⟨(v:Int) == 0,rfl,hs2⟩
 ·refine di 15 false h1 ?_
  have h1':¬ ((v:Int)=gr):=dH h1
  refine En (Lu (Dz ?_))
  refine ar.skip rfl zk cK ?_
  refine En (aL (Lt (Le (Dz ?_))))
  refine bg (v:=.bool false) ?_
  exact⟨false,rfl,hs⟩
theorem pB {w0 w:World}{L:List aI}{pp:Nat}{eb:Nat}{ec:Nat}{vm:Nat}(gr:Int) (v:Int) (hg:0<=gr/\gr<18446744073709551616) (hv:0<=v/\v<18446744073709551616) (hs:St w0 (ah pp #[.int .u64 gr,zL eb 0 1 ec,.map (some vm)] 251::Sl (some ⟨eb,0,none⟩) ec 31 1 bG ([(0:Int)])::L) w):Calls Tryz.prog 195 #[zP pp 0,.int .u64 v] w (aZ λrv w'=>∃ (ob2:Bool) (gr2:Int),rv=.bool ob2/\(0<=gr2/\gr2<18446744073709551616)/\St w0 (ah pp #[.int .u64 gr2,zL eb 0 1 ec,.map (some vm)] 251::Sl (some ⟨eb,0,none⟩) ec 31 1 bG ([(0:Int)])::L) w'):=by
 refine bp Tryz.func195 Tryz.ntmps195 ?_
 refine En (Ls (La (Lt (Ls (Ls (Dz ?_))))))
 refine aE.join (T:=Unit) (E:=λ_=>[(18,.bool ((decide ((v:Int)<=gr)) || (decide ((v:Int) >= 1073741824)))),(4,.bool false),(0,zP pp 0),(1,.int .u64 v)]) (F:=λ_ w=>St w0 (ah pp #[.int .u64 gr,zL eb 0 1 ec,.map (some vm)] 251::Sl (some ⟨eb,0,none⟩) ec 31 1 bG ([(0:Int)])::L) w) ?_ ?_
 ·refine Zg [] ?_
  refine Zp 0 11 [(7,.gen [.int .u64 gr])] [(7,[.cell ⟨pp,0,none⟩ (.int .u64 gr)])] (ak (aG (hs.cell 0 rfl zk) av) cW) ?_
  rcases Bool.eq_false_or_eq_true (decide ((v:Int)<=gr)) with h1|h1
  ·refine di 15 true h1 ?_
   have h1':(v:Int)<=gr:=of_decide_eq_true h1
   refine En (aL (Dz ?_))
   refine aw.pick [18,4,0,1] (S':=[(18,.bool true),(4,.bool false),(0,zP pp 0),(1,.int .u64 v)]) zk ?_
   exact aw.bD () (by first|rfl|(simp only [h1,Bool.not_true,Bool.not_false,Bool.true_or,Bool.false_or,Bool.true_and,Bool.false_and,Bool.or_true,Bool.or_false,Bool.and_true,Bool.and_false];done)|(simp [h1];done)) hs
  ·refine di 15 false h1 ?_
   have h1':¬ ((v:Int)<=gr):=of_decide_eq_false h1
   refine En (aL (Dz ?_))
   refine aw.pick [18,4,0,1] (S':=[(18,.bool (decide ((v:Int) >= 1073741824))),(4,.bool false),(0,zP pp 0),(1,.int .u64 v)]) zk ?_
   exact aw.bD () (by first|rfl|(simp only [h1,Bool.not_true,Bool.not_false,Bool.true_or,Bool.false_or,Bool.true_and,Bool.false_and,Bool.or_true,Bool.or_false,Bool.and_true,Bool.and_false];done)|(simp [h1];done)) hs
 intro _ w2 hs3
 refine Zt (?_)
 refine cS (t:=(decide ((v:Int)<=gr)) || (decide ((v:Int) >= 1073741824))) (λh4=>?_) (λh4=>?_)
 ·refine En (Ls (La (Lt (Le (Ly (Dz ?_))))))
  refine bg (v:=.bool false) ?_
  exact⟨false,gr,rfl,za,hs3⟩
 ·have h4a:(decide ((v:Int)<=gr))=false:=(Bool.or_eq_false_iff.1 h4).1
  have h4a':¬ ((v:Int)<=gr):=of_decide_eq_false h4a
  have h4b:(decide ((v:Int) >= 1073741824))=false:=(Bool.or_eq_false_iff.1 h4).2
  have h4b':¬ ((v:Int) >= 1073741824):=of_decide_eq_false h4b
  refine En (Lk (Lt (Ls (Lg [4] (Lu (Dz ?_))))))
  refine Zv (b:=pp) (off:=0) (v:=.int .u64 v) (ti:=Tryz.t31) zk hs3 0 (cs':=#[.int .u64 v,zL eb 0 1 ec,.map (some vm)]) ?_
  intro w5 hs6
  refine Lo (Ld (Lt (Ls (La (Lt (Le (Dz ?_)))))))
  refine bg (v:=.bool true) ?_
  exact⟨true,v,rfl,za,hs6⟩
theorem pC {w0 w:World}{L:List aI}{pp:Nat}{eb:Nat}{ec:Nat}{vm:Nat}(gr:Int) (v:Int) (kk:Int) (hkk:1<=kk) (hs:St w0 (ah pp #[.int .u64 gr,zL eb 0 1 ec,.map (some vm)] 251::Sl (some ⟨eb,0,none⟩) ec 31 1 bG ([(0:Int)])::L) w):Calls Tryz.prog 203 #[zP pp 0,.int .u64 v,.int .u64 kk,.int .i64 0] w (aZ λrv w'=>rv=.bool false/\St w0 (ah pp #[.int .u64 gr,zL eb 0 1 ec,.map (some vm)] 251::Sl (some ⟨eb,0,none⟩) ec 31 1 bG ([(0:Int)])::L) w'):=by
 refine bp Tryz.func203 Tryz.ntmps203 ?_
 refine En (Ls (La (Lt (Ls (Ls (Lg [2] (Lu (Dz ?_))))))))
 refine aF Tryz.call217 (tN gr v hs) ?_
 rintro v3 w4 ⟨ob1,rfl,hs2⟩
 refine Lo (Dz ?_)
 refine Zr 3 2 [] ?_
 rcases Bool.eq_false_or_eq_true (!ob1) with h5|h5
 ·refine di 13 true h5 ?_
  have h5n:ob1=false:=kL h5
  refine En (aL (Lt (LT (Ls (La (Lt (Le (Ly (Dz ?_)))))))))
  refine bg (v:=.bool false) ?_
  exact⟨rfl,hs2⟩
 ·refine di 13 false h5 ?_
  have h5n:ob1=true:=km h5
  refine Zr 5 10 [] ?_
  rcases Bool.eq_false_or_eq_true (decide ((kk:Int)>0)) with h6|h6
  ·refine di 23 true h6 ?_
   have h6':(kk:Int)>0:=of_decide_eq_true h6
   refine En (aL (Lt (LT (Ls (La (Lt (Le (Ly (Dz ?_)))))))))
   refine bg (v:=.bool false) ?_
   exact⟨rfl,hs2⟩
  ·refine di 23 false h6 ?_
   have h6':¬ ((kk:Int)>0):=of_decide_eq_false h6
   exfalso;omega
structure dG where
 vw:Int
 nm:Int
deriving DecidableEq
def dG.cells (x:dG):Array Value:=#[.int .u64 x.vw,.int .u64 x.nm]
abbrev vY:dG:=⟨0,0⟩
theorem B5:dE dG.cells 2:=⟨λ_=>rfl,λ_=>rfl⟩
theorem ED (a b:dG):dv Tryz.prog 2 308 (.agg a.cells) (.agg b.cells)=decide (a=b):=by
 have h:dv Tryz.prog 2 308 (.agg a.cells) (.agg b.cells)=(a.vw == b.vw && (a.nm == b.nm && true)):=zk
 rw [h,ib,ib,Bool.and_true]
 obtain⟨a0,a1⟩:=a
 obtain⟨b0,b1⟩:=b
 simp only [dG.mk.injEq,Bool.decide_and]
theorem DY:ff Tryz.prog 306 308 2 16:=⟨zk,⟨Tryz.t308,.agg (dG.cells vY),zk,zk,zk,zk,zk⟩,zf⟩
structure fM where
 ca:Option Addr
 cc:Nat
 cl:List dG
def fM.cells (x:fM):Array Value:=#[.slice x.ca x.cl.length x.cc]
abbrev bK:fM:=⟨none,0,[]⟩
theorem tO:dE fM.cells 1:=⟨λ_=>rfl,λ_=>rfl⟩
def cO (p:Nat×Nat):Array Value:=#[zP p.1 p.2]
theorem gm:dE cO 1:=⟨λ_=>rfl,λ_=>rfl⟩
theorem mM:ff Tryz.prog 185 188 1 8:=⟨zk,⟨Tryz.t188,.pointer none,zk,zk,zk,zk,zk⟩,zf⟩
abbrev gW:Nat->Value:=λb=>zP b 0
theorem oQ:dI Tryz.prog 183 kA gW 31 179 :=
 dI.now zk ⟨.int .u64,zk,λa b=>by simp [Instr.sameNow,kA,ib],.inl ⟨_,rfl⟩⟩ (λa=>by simp [Instr.sameBits,kA]) (λem a w=>rfl)
abbrev lE:Int×Int->Value:=λp=>.agg #[.int .i64 p.1,.int .u64 p.2]
abbrev lF:Bool->Value:=λb=>.bool b
theorem gf {w0 w:World}{L:List aI}{lp:Nat}{vr:Nat}{pa:Nat}{pc:Nat}{ha:Nat}{hc:Nat}(k:Nat) (v:Int) (hv:0<=v/\v<18446744073709551616) (hs:St w0 (ah lp #[.int .i64 5,.int .u64 0,.int .u64 (k:Nat),.int .u64 0,.int .u64 0,.int .u64 0,.int .u64 0,.int .u64 0,.int .u64 0,.int .u64 0,.int .u64 0,.int .u64 0,.map (some vr),zL pa 0 5 pc,zL ha 0 5 hc] 187::L) w):Calls Tryz.prog 196 #[zP lp 0,.int .u64 v] w (aZ λrv w'=>rv=.int .i64 (1+v % 5)/\St w0 (ah lp #[.int .i64 5,.int .u64 0,.int .u64 (k:Nat),.int .u64 0,.int .u64 0,.int .u64 0,.int .u64 0,.int .u64 0,.int .u64 0,.int .u64 0,.int .u64 0,.int .u64 0,.map (some vr),zL pa 0 5 pc,zL ha 0 5 hc] 187::L) w'):=by
 refine bp Tryz.func196 Tryz.ntmps196 ?_
 refine En (Ls (La (Lt (Ls (Dz ?_)))))
 refine bj (Hl 4 0 0 hs (Hg 6 (.div (v % 5)) [.prop (IntKind.u64=IntKind.u64/\(5:Int)≠0/\Int.tmod v 5=v % 5)] (aB ⟨rfl,zf,Int.tmod_eq_emod_of_nonneg (by first|omega|exact Int.natCast_nonneg _)⟩ av) (cH 7 (v % 5) (cH 8 (1+(v % 5)) Hz)))) ?_
 refine Zt (Ze (?_))
 refine bg (v:=.int .i64 (1+(v % 5))) ?_
 exact⟨rfl,hs⟩
theorem fz {w0 w:World}{L:List aI}{lp:Nat}{vr:Nat}{pa:Nat}{pc:Nat}{ha:Nat}{hc:Nat}(k:Nat) (q0:Nat×Nat) (q2:Nat×Nat) (q3:Nat×Nat) (q4:Nat×Nat) (pb:Nat) (hs:St w0 (ah lp #[.int .i64 5,.int .u64 0,.int .u64 (k:Nat),.int .u64 0,.int .u64 0,.int .u64 0,.int .u64 0,.int .u64 0,.int .u64 0,.int .u64 0,.int .u64 0,.int .u64 0,.map (some vr),zL pa 0 5 pc,zL ha 0 5 hc] 187::Sl (some ⟨pa,0,none⟩) pc 188 1 cO ([q0,(pb,0),q2,q3,q4])::L) w):Calls Tryz.prog 140 #[zP lp 0,.int .i64 2] w (aZ λrv w'=>rv=zP pb 0/\St w0 (ah lp #[.int .i64 5,.int .u64 0,.int .u64 (k:Nat),.int .u64 0,.int .u64 0,.int .u64 0,.int .u64 0,.int .u64 0,.int .u64 0,.int .u64 0,.int .u64 0,.int .u64 0,.map (some vr),zL pa 0 5 pc,zL ha 0 5 hc] 187::Sl (some ⟨pa,0,none⟩) pc 188 1 cO ([q0,(pb,0),q2,q3,q4])::L) w'):=by
 refine bp Tryz.func140 Tryz.ntmps140 ?_
 refine En (Ls (La (Lt (Ls (Ls (Dz ?_))))))
 refine bj (Hl 11 0 0 hs Hz) ?_
 refine En (Lt (LF (Lk (Lt (Ls (Dz ?_))))))
 refine bj (Hl 3 0 13 hs (Hx 6 (1:Int) (5:Int) pa 0 1 (Hg 7 (.gen [zP pb 0]) [.cell ⟨pa,1,none⟩ (zP pb 0)] (aG (ag.cC (hs.rows 1 rfl gm.size (0,0)) (k:=1) zd (j:=0) zf zk) av) Hz))) ?_
 refine Zt (Ze (?_))
 refine bg (v:=zP pb 0) ?_
 exact⟨rfl,hs⟩
theorem yO {w0 w:World}{L:List aI}(kd:Int) (hkd:1<=kd/\kd<=6) (hs:St w0 L w):Calls Tryz.prog 139 #[.int .u8 kd] w (aZ λrv w'=>(rv=.func (.func 174) #[] #[]/\kd=3/\St w0 L w')\/(rv=.func (.func 175) #[] #[]/\kd=4/\St w0 L w')\/(rv=.func (.func 176) #[] #[]/\kd=5/\St w0 L w')\/(rv=.func (.func 177) #[] #[]/\kd=1/\St w0 L w')\/(rv=.func (.func 178) #[] #[]/\kd=2/\St w0 L w')\/(rv=.func (.func 179) #[] #[]/\kd=6/\St w0 L w')):=by
 refine bp Tryz.func139 Tryz.ntmps139 ?_
 refine En (Ls (La (Lt (Ls (Ls (La (Lt (Lb (Ls (La (Lt (Dz ?_))))))))))))
 refine cS (t:=(kd:Int) == 3) (λh1=>?_) (λh1=>?_)
 ·have h1':(kd:Int)=3:=dt h1
  refine En (Ls (La (Lt (Le (Ll (Ly (Dz ?_)))))))
  refine bg (v:=.func (.func 174) #[] #[]) ?_
  exact .inl ⟨rfl,za,hs⟩
 ·have h1':¬ ((kd:Int)=3):=dH h1
  refine En (Ls (La (Lt (Dz ?_))))
  refine cS (t:=(kd:Int) == 4) (λh2=>?_) (λh2=>?_)
  ·have h2':(kd:Int)=4:=dt h2
   refine En (Ls (La (Lt (Le (Ll (Ly (Dz ?_)))))))
   refine bg (v:=.func (.func 175) #[] #[]) ?_
   exact .inr (.inl ⟨rfl,za,hs⟩)
  ·have h2':¬ ((kd:Int)=4):=dH h2
   refine En (Ls (La (Lt (Dz ?_))))
   refine cS (t:=(kd:Int) == 5) (λh3=>?_) (λh3=>?_)
   ·have h3':(kd:Int)=5:=dt h3
    refine En (Ls (La (Lt (Le (Ll (Ly (Dz ?_)))))))
    refine bg (v:=.func (.func 176) #[] #[]) ?_
    exact .inr (.inr (.inl ⟨rfl,za,hs⟩))
   ·have h3':¬ ((kd:Int)=5):=dH h3
    refine En (Ls (La (Lt (Dz ?_))))
    refine cS (t:=(kd:Int) == 1) (λh4=>?_) (λh4=>?_)
    ·have h4':(kd:Int)=1:=dt h4
     refine En (Ls (La (Lt (Le (Ll (Ly (Dz ?_)))))))
     refine bg (v:=.func (.func 177) #[] #[]) ?_
     exact .inr (.inr (.inr (.inl ⟨rfl,za,hs⟩)))
    ·have h4':¬ ((kd:Int)=1):=dH h4
     refine En (Ls (La (Lt (Dz ?_))))
     refine cS (t:=(kd:Int) == 2) (λh5=>?_) (λh5=>?_)
     ·have h5':(kd:Int)=2:=dt h5
      refine En (Ls (La (Lt (Le (Ll (Ly (Dz ?_)))))))
      refine bg (v:=.func (.func 178) #[] #[]) ?_
      exact .inr (.inr (.inr (.inr (.inl ⟨rfl,za,hs⟩))))
     ·have h5':¬ ((kd:Int)=2):=dH h5
      refine En (Lk (Lm (Lt (Ls (La (Lt (Le (Dz ?_))))))))
      refine bg (v:=.func (.func 179) #[] #[]) ?_
      exact .inr (.inr (.inr (.inr (.inr (⟨rfl,za,hs⟩)))))
theorem yP {w0 w:World}{L:List aI}(v:Int) (hs:St w0 L w):Calls Tryz.prog 218 #[.slice none 0 0,.int .u64 v] w (aZ λrv w'=>rv=.tuple #[.int .i64 0,.bool false]/\St w0 L w'):=by
 refine bp Tryz.func218 Tryz.ntmps218 ?_
 refine En (Ls (La (Lt (Ls (La (Lt (Ls (La (Lt (Ls (Lb (Dz ?_))))))))))))
 refine aE.dJ 1 ?_
 refine En (Ls (Ls (La (Lt (LF (Lx (gv (gw (Lh (Lt (Ls (Lg [16,19] (Lu (Dz ?_))))))))))))))
 refine ar.skip rfl zk cK ?_
 refine En (Lu (Dz ?_))
 refine ar.skip rfl zk cK ?_
 refine En (aL (Lt (Le (Dz ?_))))
 refine jE (v:=.int .i64 0) (v':=.bool false) ?_
 exact⟨rfl,hs⟩
theorem rN {w0 w:World}{L:List aI}{wb:Nat}{pD:Nat}(v:Int) (hs:St w0 (ah wb #[.int .u64 0,.int .i64 0,.slice none 0 0,.slice none 0 0,.map (some pD)] 182::L) w):Calls Tryz.prog 204 #[zP wb 0,.int .u64 v] w (aZ λrv w'=>rv=.int .i64 0/\St w0 (ah wb #[.int .u64 0,.int .i64 0,.slice none 0 0,.slice none 0 0,.map (some pD)] 182::L) w'):=by
 refine bp Tryz.func204 Tryz.ntmps204 ?_
 refine En (Ls (La (Lt (Ls (Dz ?_)))))
 refine bL [5] (Hl 3 0 3 hs Hz) ?_
 refine aF Tryz.call218 (yP v hs) ?_
 rintro v2 w3 ⟨rfl,hs1⟩
 refine Lo (aL (Lt (Ls (Ls (La (Lt (LF (Lk (Lt (Ls (Dz ?_)))))))))))
 refine bj (Hl 3 0 1 hs1 Hz) ?_
 refine Zt (Ze (?_))
 refine bg (v:=.int .i64 0) ?_
 exact⟨rfl,hs1⟩
theorem yQ {w0 w:World}{L:List aI}{al:Option Addr}{cl:Nat}(l:List dG) (x:dG) (hll:l.length<=100000) (hr:∀ w,St w0 L w->ag w al l.length 2 (λk=>dG.cells (l.getD k vY))) (hs:St w0 L w):Calls Tryz.prog 221 #[.slice al l.length cl,.agg (dG.cells x)] w (aZ λrv w'=>∃ (iv2:Int),rv=.int .i64 iv2/\St w0 L w'):=by
 refine bp Tryz.func221 Tryz.ntmps221 ?_
 refine En (Ls (Lg [0] (Dz ?_)))
 refine ar.box rfl rfl zk (v:=.agg (dG.cells x)) zk hs (cs:=dG.cells x) zk ?_
 intro b1 w2 hs3
 refine Lo (aL (Lt (Ls (Ls (La (Lt (Lb (Dz ?_))))))))
 refine aE.loop (T:=Nat×(Option Addr)) (λgg=>[(0,.slice gg.2 l.length cl),(3,zP b1 0),(7,.int .i64 (l.length:Nat)),(8,.int .i64 (gg.1:Nat))]) (λgg w=>(gg.1<=l.length/\∀ w,St w0 L w->ag w gg.2 l.length 2 (λq=>dG.cells (l.getD q vY)))/\St w0 (ah b1 (dG.cells x) 308::L) w) (λgg=>l.length-gg.1) (0,al) [0,3,7,8] zk ⟨⟨Nat.zero_le _,hr⟩,hs3⟩ ?_
 rintro⟨i,aq⟩ w4 ⟨hp0,hs5⟩
 have hp:i<=l.length/\∀ w,St w0 L w->ag w aq l.length 2 (λq=>dG.cells (l.getD q vY)):=hp0
 have hs6:St w0 (ah b1 (dG.cells x) 308::L) w4:=hs5
 refine Zn [(0,.slice aq l.length cl),(3,zP b1 0),(7,.int .i64 (l.length:Nat)),(8,.int .i64 (i:Nat))] ?_
 have hw:=hp.2
 refine En (Ls (La (Lt (Ls (Dz ?_)))))
 refine Zi (((i:Nat):Int)<(l.length:Nat)) (λh7'=>?_) (λh7'=>?_)
 ·have hk:i<l.length:=za
  obtain⟨ab8,ao9,rfl⟩:=ag.isSome (hw _ (hs6.drop 1)) za
  refine En (Lk (Lt (Ls (Lb (Ls (La (Lt (Ls (Dz ?_)))))))))
  refine aE.aV [0,0,0,6,14,31] (.rd 0 (.rd 1 (.rd 2 (.rd 3 (.rd 4 (.rd 5 .done)))))) zk zk ai zk hs6 ?_
  intro w10 hs11 hw12
  refine Zp 0 5 [(0,.agg (dG.cells x)),(3,.cI (zP ab8 (ao9+(i*2))) .at_),(4,.agg (dG.cells (l.getD i vY)))] [(0,[.prop (Array.size (dG.cells x)=2),.cells ⟨b1,0,none⟩ (dG.cells x)]),(3,[.prop (0<=((i:Nat):Int)/\((i:Nat):Int)<((l.length:Nat):Int)),.prop (Value.pointer (some (Addr.add ⟨ab8,ao9,none⟩ (Int.toNat (i:Nat)*2)))=Value.pointer (some ⟨ab8,ao9+(i*2),none⟩))]),(4,[.prop (Array.size (dG.cells (l.getD i vY))=2),.cells ⟨ab8,ao9+(i*2),none⟩ (dG.cells (l.getD i vY))])] (ak (aB zk (dq (hs11.cells 0 0 rfl zk) av)) (ak (aB za (aB (aS _ _ _) av)) (ak (aB zk (dq (ag.lO (hw _ (hs11.drop 1)) zd (Nat.le_of_ble_eq_true zk) zk) av)) cW))) ?_
  refine ar.jY rfl zk (b:=true) (t:=308) (xs:=dG.cells x) (ys:=dG.cells (l.getD i vY)) (m:=2) zk zk zf zk (r:=decide (x=(l.getD i vY))) (pT  (ED x (l.getD i vY))) ?_
  refine Zd (Zt (?_))
  refine Zi (x=(l.getD i vY)) (λh13'=>?_) (λh13'=>?_)
  ·refine En (Ls (La (Lt (Le (Ll (Ly (uk (Ll (Ly (Dz ?_))))))))))
   refine bg (v:=.int .i64 (i:Nat)) ?_
   have hs14:=hs11.dr 1
   exact⟨(i:Nat),rfl,hs14⟩
  ·refine Zk (Zm (Zt (?_)))
   refine bj (cH 0 ((i:Nat)+1) Hz) ?_
   exact aw.back (i+1,some ⟨ab8,ao9,none⟩) [0,3,7,8] zk (by show l.length-(i+1)<l.length-i;omega) ⟨⟨za,hw⟩,hs11⟩
 ·refine En (Lx (gv (gw (Lh (Lt (Ls (La (Lt (Le (Dz ?_))))))))))
  refine bg (v:=.int .i64 (-1)) ?_
  have hs15:=hs6.dr 1
  exact⟨(-1),rfl,hs15⟩
theorem vZ {w0 w:World}{L:List aI}{al:Option Addr}{cl:Nat}(l:List dG) (x:dG) (hll:l.length<=100000) (hr:∀ w,St w0 L w->ag w al l.length 2 (λk=>dG.cells (l.getD k vY))) (hs:St w0 L w):Calls Tryz.prog 211 #[.slice al l.length cl,.agg (dG.cells x)] w (aZ λrv w'=>∃ (ob2:Bool),rv=.bool ob2/\St w0 L w'):=by
 refine bp Tryz.func211 Tryz.ntmps211 ?_
 refine En (Ls (Lg [0] (Dz ?_)))
 refine ar.box rfl rfl zk (v:=.agg (dG.cells x)) zk hs (cs:=dG.cells x) zk ?_
 intro b1 w2 hs3
 refine Lo (aL (Lt (Ls (Dz ?_))))
 refine bL [2] (du 1 0 0 2 (dG.cells x) hs3 Hz) ?_
 refine aF (f:=221) (args:=#[.slice al l.length cl,.agg (dG.cells x)]) Tryz.call221 (yQ l x za (λw h=>hr _ (h.drop 1)) hs3) ?_
 rintro v6 w7 ⟨iv4,rfl,hs5⟩
 refine Lo (aL (Lt (Le (Dz ?_))))
 refine bg (v:=.bool (decide ((iv4:Int) >= 0))) ?_
 have hs8:=hs5.dr 1
 exact⟨decide ((iv4:Int) >= 0),rfl,hs8⟩
theorem xz {m:an}(h:cZ m=true):eo m.bd=true:=(fJ (gD h)).2.1
theorem C6 {x:aK}(h:eo x=true) (hk:x.kd=4):1<=x.vw/\eZ 0 x.ql=true:=by
 unfold eo at h
 rw [if_neg za,if_neg za,if_pos hk] at h
 simp only [Bool.and_eq_true,decide_eq_true_eq,jk] at h
 exact⟨h.1,h.2.1⟩
theorem C7 {x:aK}(h:eo x=true) (hk:x.kd=5):1<=x.vw:=by
 unfold eo at h
 rw [if_neg za,if_neg za,if_neg za] at h
 simpa using h
theorem C8 {x:aK}(h:eo x=true) (hk:x.kd=2):1<=x.k:=by
 unfold eo at h
 rw [if_neg za,if_pos (.inl hk)] at h
 simp only [kB,Bool.and_eq_true,decide_eq_true_eq] at h
 exact h.1
theorem qG:∀ (l:List aT) (was:Int),eZ was l=true->∀ i,i<l.length->was<(l.getD i aR).rp/\(l.getD i aR).rp<=11/\1<=(l.getD i aR).nm/\(l.getD i aR).nm<=65536
 | [],_,_,i,hi=>absurd hi (Nat.not_lt_zero _)
 | p::l,was,h,i,hi=>by
  unfold eZ at h
  split at h
  ·cases h
  ·rename_i hn
   match i with
   | 0=>show was<p.rp/\p.rp<=11/\1<=p.nm/\p.nm<=65536;omega
   | i+1 =>
    have:=qG l p.rp h i (Nat.lt_of_succ_lt_succ hi)
    show was<(l.getD i aR).rp/\_
    exact⟨za,this.2⟩
theorem yR {l:List aT}(h:eZ 0 l=true) (h2:∀ i,i<l.length->(l.getD i aR).rp=2):l.length<=1:=by
 rcases l with _|⟨a,_|⟨b,l⟩⟩
 ·exact Nat.zero_le _
 ·exact Nat.le_refl _
 ·exfalso
  have ha:a.rp=2:=h2 0 (Nat.succ_pos _)
  have hb:b.rp=2:=h2 1 (Nat.succ_lt_succ (Nat.succ_pos _))
  unfold eZ at h
  split at h
  ·cases h
  ·unfold eZ at h
   split at h
   ·cases h
   ·omega
theorem C9 {l:List aT}(h:(l.any (λq=>decide ((q.rp:Int)>5)))=false) (i:Nat) (hi:i<l.length):(l.getD i aR).rp<=5:=by
 rw [List.any_eq_false] at h
 have:=h (l.getD i aR) (by rw [List.getD_eq_getElem?_getD,List.getElem?_eq_getElem hi];exact List.getElem_mem hi)
 simpa using this
theorem pE {w0 w:World}{L:List aI}{lp:Nat}{vr:Nat}{pa:Nat}{pc:Nat}{ha:Nat}{hc:Nat}{kn:Nat}{ca:Option Addr}{cc:Nat}{pp:Nat}{eb:Nat}{ec:Nat}{vm:Nat}(k:Nat) (bd:aK) (tg:aO) (cl:List dG) (gr:Int) (hg:0<=gr/\gr<18446744073709551616) (hvw:0<=bd.vw/\bd.vw<18446744073709551616) (hcl:cl.length<=70000) (hr:∀ w,St w0 L w->ag w bd.qa bd.ql.length 2 (λk=>aT.cells (bd.ql.getD k aR))) (hs:St w0 (ah lp #[.int .i64 5,.int .u64 0,.int .u64 (kn:Nat),.int .u64 0,.int .u64 0,.int .u64 0,.int .u64 0,.int .u64 0,.int .u64 0,.int .u64 0,.int .u64 0,.int .u64 0,.map (some vr),zL pa 0 5 pc,zL ha 0 5 hc] 187::Sl (some ⟨ha,0,none⟩) hc 306 1 fM.cells ([bK,(⟨ca,cc,cl⟩:fM),bK,bK,bK])::Sl ca cc 308 2 dG.cells cl::ah pp #[.int .u64 gr,zL eb 0 1 ec,.map (some vm)] 251::Sl (some ⟨eb,0,none⟩) ec 31 1 bG ([(0:Int)])::L) w):Calls Tryz.prog 174 #[zP lp 0,.agg (an.cells (⟨2,((k:Nat)+1),aA k,bd,tg⟩:an)),zP pp 0] w (aZ λrv w'=>∃ (ob2:Bool) (gr2:Int) (ca2:Option Addr) (cc2:Nat) (cl2:List dG),rv=.bool ob2/\(0<=gr2/\gr2<18446744073709551616)/\cl2.length<=cl.length+1/\St w0 (ah lp #[.int .i64 5,.int .u64 0,.int .u64 (kn:Nat),.int .u64 0,.int .u64 0,.int .u64 0,.int .u64 0,.int .u64 0,.int .u64 0,.int .u64 0,.int .u64 0,.int .u64 0,.map (some vr),zL pa 0 5 pc,zL ha 0 5 hc] 187::Sl (some ⟨ha,0,none⟩) hc 306 1 fM.cells ([bK,(⟨ca2,cc2,cl2⟩:fM),bK,bK,bK])::Sl ca2 cc2 308 2 dG.cells cl2::ah pp #[.int .u64 gr2,zL eb 0 1 ec,.map (some vm)] 251::Sl (some ⟨eb,0,none⟩) ec 31 1 bG ([(0:Int)])::L) w'):=by
 refine bp Tryz.func174 Tryz.ntmps174 ?_
 refine En (Ls (Lg [0] (Dz ?_)))
 refine ar.box rfl rfl zk (v:=.agg (an.cells (⟨2,((k:Nat)+1),aA k,bd,tg⟩:an))) zk hs (cs:=an.cells (⟨2,((k:Nat)+1),aA k,bd,tg⟩:an)) zk ?_
 intro b1 w2 hs3
 refine Lo (aL (Lt (Ls (Dz ?_))))
 refine bj (Hl 2 0 14 hs3 Hz) ?_
 refine En (Lt (Ls (Ls (Lg [2] (Lu (Dz ?_))))))
 have hs4:=(hs3.pl 5).pl 5
 refine aF Tryz.call195 (pB gr bd.vw hg hvw hs4) ?_
 rintro v9 w10 ⟨ob5,gr6,rfl,hgr7,hs8⟩
 refine Lo (aL (Lt (Dz ?_)))
 refine cS (t:=!ob5) (λh11=>?_) (λh11=>?_)
 ·have h11n:ob5=false:=kL h11
  refine En (Ls (La (Lt (Le (Ly (Dz ?_))))))
  refine bg (v:=.bool false) ?_
  have hs12:=(((((hs8.pl 1).pl 1).pl 5).pl 5).pl 5).pl 5
  have hs13:=hs12.dr 1
  exact⟨false,gr6,ca,cc,cl,rfl,za,zG,hs13⟩
 ·have h11n:ob5=true:=km h11
  refine Zk (Zt (Zs (?_)))
  refine aE.aV [0,1,3,7,0,16,48,0,128,384,896,0,2048,6144,16256,32640,0,0,131072,458752,983040,2097024,4194303,8388607] (.rd 0 (.rd 1 (.rd 2 (.rd 3 (.rd 4 (.rd 5 (.rd 6 (.rd 7 (.rd 8 (.rd 9 (.rd 10 (.rd 11 (.rd 12 (.rd 13 (.rd 14 (.rd 15 (.rd 16 (.rd 17 (.rd 18 (.rd 19 (.ef 20 (.ef 21 (.rd 22 (.ef 23 .done)))))))))))))))))))))))) zk zk ai zk hs8 ?_
  intro w14 hs15 hw16
  refine Zj (Hl 3 3 14 hs15 (Hl 5 2 0 hs15 (Hl 10 3 14 hs15 (Hl 12 2 0 hs15 (Hx 14 (1:Int) (5:Int) ha 0 1 (Hg 15 (.gen [.slice ca cl.length cc]) [.cell ⟨ha,1,none⟩ (.slice ca cl.length cc)] (aG (ag.cC (hs15.rows 4 rfl tO.size bK) (k:=1) zd (j:=0) zf zk) av) (Hl 18 2 1 hs15 Hz))))))) ?_
  refine ar.aW rfl zk (t:=306) (e:=308) (n:=1) (ps:=[(0,.agg (dG.cells (⟨bd.vw,((k:Nat)+1)⟩:dG)))]) zk zk (ti:=Tryz.t308) (z:=.agg (dG.cells vY)) zk zk zf zf (cs:=dG.cells (⟨bd.vw,((k:Nat)+1)⟩:dG)) zk hs15 ?_
  intro b17 w18 hs19 hz20
  have hs21:St w0 (Sl (some ⟨b17,0,none⟩) 1 308 2 dG.cells ([((⟨bd.vw,((k:Nat)+1)⟩:dG):dG)])::ah pp #[.int .u64 gr6,zL eb 0 1 ec,.map (some vm)] 251::Sl (some ⟨eb,0,none⟩) ec 31 1 bG ([(0:Int)])::ah b1 (an.cells (⟨2,((k:Nat)+1),aA k,bd,tg⟩:an)) 43::ah lp #[.int .i64 5,.int .u64 0,.int .u64 (kn:Nat),.int .u64 0,.int .u64 0,.int .u64 0,.int .u64 0,.int .u64 0,.int .u64 0,.int .u64 0,.int .u64 0,.int .u64 0,.map (some vr),zL pa 0 5 pc,zL ha 0 5 hc] 187::Sl (some ⟨ha,0,none⟩) hc 306 1 fM.cells ([bK,(⟨ca,cc,cl⟩:fM),bK,bK,bK])::Sl ca cc 308 2 dG.cells cl::L) w18:=St.ey (l:=[((⟨bd.vw,((k:Nat)+1)⟩:dG):dG)]) (f:=dG.cells) hs19 hz20 B5.size zh zk
  refine⟨bw (n:=[.cell ⟨ha,1,none⟩ (.slice ca cl.length cc),.prop (0<=(1:Int)/\(1:Int)<(5:Int)),.prop (Value.pointer (some (Addr.add ⟨ha,0,none⟩ (Int.toNat 1*1)))=Value.pointer (some ⟨ha,1,none⟩)),.cell ⟨b1,0,none⟩ (.int .i64 2),.cell ⟨lp,14,none⟩ (zL ha 0 5 hc),.cell ⟨b1,0,none⟩ (.int .i64 2),.cell ⟨lp,14,none⟩ (zL ha 0 5 hc)]) zk (aG (ag.cC (hs21.rows 5 rfl tO.size bK) (k:=1) zd (j:=0) zf zk) (aB za (aB (aS _ _ _) (aG (hs21.cell 3 rfl zk) (aG (hs21.cell 4 rfl zk) (aG (hs21.cell 3 rfl zk) (aG (hs21.cell 4 rfl zk) av))))))),?_⟩
  have hs24:=hs21.pl 6
  refine ar.append rfl zk DY B5 (ad:=ca) (c:=cc) (xs:=cl) (ys:=[((⟨bd.vw,((k:Nat)+1)⟩:dG):dG)]) (adx:=some ⟨b17,0,none⟩) (cx:=1) vY zk hs24 (hs24.rows 1 rfl B5.size vY) (λh=>nomatch h) zg zg ?_
  intro ad25 c26 w22 hs23
  refine⟨bw (n:=[.cell ⟨b1,0,none⟩ (.int .i64 2),.cell ⟨lp,14,none⟩ (zL ha 0 5 hc)]) zk (aG (hs23.cell 4 rfl zk) (aG (hs23.cell 5 rfl zk) av)),?_⟩
  refine Zj (Hx 22 (1:Int) (5:Int) ha 0 1 Hz) ?_
  refine ar.wN rfl rfl zk (b:=ha) (off:=1) (v:=.slice ad25 ((cl++([((⟨bd.vw,((k:Nat)+1)⟩:dG):dG)])).length) c26) zk zk (ti:=Tryz.t306) zk hs23 6 tO.size rfl zk zk (by exact nO (f:=fM.cells) (size:=1) (l:=[bK,(⟨ca,cc,cl⟩:fM),bK,bK,bK]) (k:=1) (o:=0) (n:=1) tO.size zd zf) rfl (xs':=[bK,(⟨ad25,c26,(cl++([((⟨bd.vw,((k:Nat)+1)⟩:dG):dG)]))⟩:fM),bK,bK,bK]) (by exact kT (f:=fM.cells) (size:=1) (l:=[bK,(⟨ca,cc,cl⟩:fM),bK,bK,bK]) (k:=1) (o:=0) tO.size zd bK (⟨ad25,c26,(cl++([((⟨bd.vw,((k:Nat)+1)⟩:dG):dG)]))⟩:fM) (Nat.le_of_ble_eq_true rfl) zk) (L':=(Sl ad25 c26 308 2 dG.cells (cl++([((⟨bd.vw,((k:Nat)+1)⟩:dG):dG)])))::Sl (some ⟨b17,0,none⟩) 1 308 2 dG.cells ([((⟨bd.vw,((k:Nat)+1)⟩:dG):dG)])::ah pp #[.int .u64 gr6,zL eb 0 1 ec,.map (some vm)] 251::Sl (some ⟨eb,0,none⟩) ec 31 1 bG ([(0:Int)])::ah b1 (an.cells (⟨2,((k:Nat)+1),aA k,bd,tg⟩:an)) 43::ah lp #[.int .i64 5,.int .u64 0,.int .u64 (kn:Nat),.int .u64 0,.int .u64 0,.int .u64 0,.int .u64 0,.int .u64 0,.int .u64 0,.int .u64 0,.int .u64 0,.int .u64 0,.map (some vr),zL pa 0 5 pc,zL ha 0 5 hc] 187::Sl (some ⟨ha,0,none⟩) hc 306 1 fM.cells ([bK,(⟨ad25,c26,(cl++([((⟨bd.vw,((k:Nat)+1)⟩:dG):dG)]))⟩:fM),bK,bK,bK])::L) rfl ?_
  intro w27 hs28
  refine Lo (Ld (Lt (Ls (La (Lt (Le (Dz ?_)))))))
  refine bg (v:=.bool true) ?_
  have hs29:=((((((hs28.pl 3).pl 3).pl 2).pl 6).pl 6).pl 6).pl 6
  have hs30:=hs29.dr 2
  exact⟨true,gr6,ad25,c26,cl++([((⟨bd.vw,((k:Nat)+1)⟩:dG):dG)]),rfl,za,zG,hs30⟩
theorem rO {w0 w:World}{L:List aI}{lp:Nat}{pp:Nat}(k:Nat) (bd:aK) (tg:aO) (hr:∀ w,St w0 L w->ag w bd.qa bd.ql.length 2 (λk=>aT.cells (bd.ql.getD k aR))) (hs:St w0 L w):Calls Tryz.prog 179 #[zP lp 0,.agg (an.cells (⟨2,((k:Nat)+1),aA k,bd,tg⟩:an)),zP pp 0] w (aZ λrv w'=>rv=.bool true/\St w0 L w'):=by
 refine bp Tryz.func179 Tryz.ntmps179 ?_
 refine En (Ls (Lg [0] (Dz ?_)))
 refine ar.box rfl rfl zk (v:=.agg (an.cells (⟨2,((k:Nat)+1),aA k,bd,tg⟩:an))) zk hs (cs:=an.cells (⟨2,((k:Nat)+1),aA k,bd,tg⟩:an)) zk ?_
 intro b1 w2 hs3
 refine Lo (aL (Lt (Ls (La (Lt (Le (Dz ?_)))))))
 refine bg (v:=.bool true) ?_
 have hs4:=hs3.dr 1
 exact⟨rfl,hs4⟩
theorem rP {v:Int}{wb:Nat}(h:1<=v):cT [((0:Int),wb)] v=none:=by
 rw [cT,List.find?_cons_of_neg (by simp only [decide_eq_true_eq];omega)]
 rfl
theorem xA {wb:Nat}:cT [((0:Int),wb)] 0=some wb:=rfl
theorem rQ {w0 w:World}{L:List aI}{lp:Nat}{vr:Nat}{pa:Nat}{pc:Nat}{ha:Nat}{hc:Nat}{kn:Nat}{pp:Nat}{wb:Nat}(k:Nat) (bd:aK) (tg:aO) (hvw:1<=bd.vw) (hr:∀ w,St w0 L w->ag w bd.qa bd.ql.length 2 (λk=>aT.cells (bd.ql.getD k aR))) (hs:St w0 (ah lp #[.int .i64 5,.int .u64 0,.int .u64 (kn:Nat),.int .u64 0,.int .u64 0,.int .u64 0,.int .u64 0,.int .u64 0,.int .u64 0,.int .u64 0,.int .u64 0,.int .u64 0,.map (some vr),zL pa 0 5 pc,zL ha 0 5 hc] 187::bC kA gW vr ([((0:Int),wb)])::L) w):Calls Tryz.prog 176 #[zP lp 0,.agg (an.cells (⟨2,((k:Nat)+1),aA k,bd,tg⟩:an)),zP pp 0] w (aZ λrv w'=>rv=.bool false/\St w0 (ah lp #[.int .i64 5,.int .u64 0,.int .u64 (kn:Nat),.int .u64 0,.int .u64 0,.int .u64 0,.int .u64 0,.int .u64 0,.int .u64 0,.int .u64 0,.int .u64 0,.int .u64 0,.map (some vr),zL pa 0 5 pc,zL ha 0 5 hc] 187::bC kA gW vr ([((0:Int),wb)])::L) w'):=by
 refine bp Tryz.func176 Tryz.ntmps176 ?_
 refine En (Ls (Lg [0] (Dz ?_)))
 refine ar.box rfl rfl zk (v:=.agg (an.cells (⟨2,((k:Nat)+1),aA k,bd,tg⟩:an))) zk hs (cs:=an.cells (⟨2,((k:Nat)+1),aA k,bd,tg⟩:an)) zk ?_
 intro b1 w2 hs3
 refine Lo (aL (Lt (Ls (Dz ?_))))
 refine bj (Hl 2 0 14 hs3 Hz) ?_
 refine En (Lt (Ls (Lg [] (Dz ?_))))
 refine Zp 0 5 [(3,.gen [.map (some vr)])] [(3,[.cell ⟨lp,12,none⟩ (.map (some vr))])] (ak (aG (hs3.cell 1 rfl zk) av) cW) ?_
 refine ar.lookup rfl zk oQ (r:=vr) (k:=bd.vw) (ok:=false) zk hs3 2 rfl (z:=.pointer none) zk (v:=.pointer none) (by rw [rP (v:=bd.vw) (wb:=wb) za];rfl) ?_
 refine En (aL (Lt (Ls (Dz ?_))))
 refine aE.aV [0,1,3,7,15,31,63,7,7,391,903,7,3975,8071,16383,32767,65535,131071,131071,131071,655359,1703935,3801087,8388607,16777215,33554431] (.rd 0 (.rd 1 (.rd 2 (.rd 3 (.rd 4 (.rd 5 (.rd 6 (.rd 7 (.rd 8 (.rd 11 (.ef 9 (.rd 10 (.rd 12 (.rd 13 (.rd 14 (.rd 15 (.rd 16 (.rd 17 (.rd 18 (.rd 19 (.rd 20 (.rd 21 (.rd 22 (.ef 23 (.rd 24 (.rd 25 .done)))))))))))))))))))))))))) zk zk ai zk hs3 ?_
 intro w4 hs5 hw6
 refine En (Lu (Dz ?_))
 refine ar.skip rfl zk cK ?_
 refine En (Lu (Dz ?_))
 refine ar.skip rfl zk cK ?_
 refine En (aL (Lt (Le (Dz ?_))))
 refine bg (v:=.bool false) ?_
 have hs7:=hs5.dr 1
 exact⟨rfl,hs7⟩
theorem oR {w0 w:World}{L:List aI}{lp:Nat}{vr:Nat}{pa:Nat}{pc:Nat}{ha:Nat}{hc:Nat}{kn:Nat}{pp:Nat}{wb:Nat}(k:Nat) (bd:aK) (tg:aO) (hvw:0<=bd.vw/\bd.vw<18446744073709551616) (hr:∀ w,St w0 L w->ag w bd.qa bd.ql.length 2 (λk=>aT.cells (bd.ql.getD k aR))) (hs:St w0 (ah lp #[.int .i64 5,.int .u64 0,.int .u64 (kn:Nat),.int .u64 0,.int .u64 0,.int .u64 0,.int .u64 0,.int .u64 0,.int .u64 0,.int .u64 0,.int .u64 0,.int .u64 0,.map (some vr),zL pa 0 5 pc,zL ha 0 5 hc] 187::bC kA gW vr ([((0:Int),wb)])::L) w):Calls Tryz.prog 177 #[zP lp 0,.agg (an.cells (⟨2,((k:Nat)+1),aA k,bd,tg⟩:an)),zP pp 0] w (aZ λrv w'=>rv=.bool false/\St w0 (ah lp #[.int .i64 5,.int .u64 0,.int .u64 (kn:Nat),.int .u64 0,.int .u64 0,.int .u64 0,.int .u64 0,.int .u64 0,.int .u64 0,.int .u64 0,.int .u64 0,.int .u64 0,.map (some vr),zL pa 0 5 pc,zL ha 0 5 hc] 187::bC kA gW vr ([((0:Int),wb)])::L) w'):=by
 refine bp Tryz.func177 Tryz.ntmps177 ?_
 refine En (Ls (Lg [0] (Dz ?_)))
 refine ar.box rfl rfl zk (v:=.agg (an.cells (⟨2,((k:Nat)+1),aA k,bd,tg⟩:an))) zk hs (cs:=an.cells (⟨2,((k:Nat)+1),aA k,bd,tg⟩:an)) zk ?_
 intro b1 w2 hs3
 refine Lo (aL (Lt (Ls (Dz ?_))))
 refine aE.aV [0,1,3,0,8,24,0,71,255] (.rd 0 (.rd 1 (.rd 2 (.rd 3 (.rd 4 (.rd 5 (.ef 6 (.rd 7 (.ef 8 .done))))))))) zk zk ai zk hs3 ?_
 intro w4 hs5 hw6
 refine Zj (Hl 2 0 14 hs5 (du 5 0 16 40 (dM.cells bd.rq) hs5 Hz)) ?_
 refine ar.alloc rfl rfl zk (z:=.agg (dM.cells dk)) zk hs5 (cs:=dM.cells dk) zk ?_
 intro b7 w8 hs9
 refine⟨bw (n:=[.prop (Array.size (dM.cells bd.rq)=40),.cells ⟨b1,16,none⟩ (dM.cells bd.rq),.cell ⟨b1,14,none⟩ (.int .u64 bd.vw)]) zk (aB zk (dq (hs9.cells 1 16 rfl zk) (aG (hs9.cell 1 rfl zk) av))),?_⟩
 refine En (Lu (Dz ?_))
 refine Zv (b:=b7) (off:=0) (v:=.agg (dM.cells bd.rq)) (ti:=Tryz.t36) zk hs9 0 (cs':=dM.cells bd.rq) ?_
 intro w10 hs11
 refine Lo (Ld (Lt (Ls (Dz ?_))))
 rcases(show 1<=bd.vw\/bd.vw=0 by omega) with hv1|hv0
 ·refine Zg [] ?_
  refine Zp 0 5 [(3,.gen [.map (some vr)])] [(3,[.cell ⟨lp,12,none⟩ (.map (some vr))])] (ak (aG (hs11.cell 2 rfl zk) av) cW) ?_
  refine ar.lookup rfl zk oQ (r:=vr) (k:=bd.vw) (ok:=false) zk hs11 3 rfl (z:=.pointer none) zk (v:=.pointer none) (by rw [rP (v:=bd.vw) (wb:=wb) za];rfl) ?_
  refine En (aL (Lt (Ls (Ls (Dz ?_)))))
  refine aE.aV [0,0,3,0,8,31,63,127,255,511,1023,2047,4095,8191,16383,32767,65535,131071,262143,524287,65535,1114111,65535,4259839,15794175,33554431,67108863,134217727,268435455,268435455,1073741823,2147483647,4294967295] (.rd 0 (.rd 1 (.rd 3 (.rd 4 (.ef 2 (.rd 5 (.rd 6 (.rd 7 (.rd 8 (.rd 9 (.rd 10 (.rd 11 (.ef 12 (.rd 13 (.rd 14 (.rd 15 (.rd 16 (.rd 17 (.rd 18 (.rd 19 (.rd 20 (.rd 21 (.rd 22 (.rd 23 (.rd 24 (.rd 25 (.rd 26 (.rd 27 (.rd 28 (.rd 29 (.ef 30 (.rd 31 (.rd 32 .done))))))))))))))))))))))))))))))))) zk zk ai zk hs11 ?_
  intro w12 hs13 hw14
  refine Zj (Hl 4 1 0 hs13 Hz) ?_
  have hs15:=hs13.pl 2
  refine aF Tryz.call196 (gf kn bd.vw hvw hs15) ?_
  rintro v17 w18 ⟨rfl,hs16⟩
  refine⟨bw (n:=[.cell ⟨b1,0,none⟩ (.int .i64 2)]) zk (aG (hs16.cell 2 rfl zk) av),?_⟩
  refine Zr 5 2 [] ?_
  rcases Bool.eq_false_or_eq_true (((1+bd.vw % 5):Int) != 2) with h19|h19
  ·refine di 28 true h19 ?_
   have h19':¬ ((1+bd.vw % 5:Int)=2):=jb h19
   refine En (Lu (Dz ?_))
   refine ar.skip rfl zk cK ?_
   refine En (Lu (Dz ?_))
   refine ar.skip rfl zk cK ?_
   refine En (aL (Lt (LT (Ls (La (Lt (Le (Ly (Dz ?_)))))))))
   refine bg (v:=.bool false) ?_
   have hs20:=(((hs16.pl 3).pl 1).pl 3).pl 3
   have hs21:=hs20.dr 2
   exact⟨rfl,hs21⟩
  ·refine di 28 false h19 ?_
   have h19':(1+bd.vw % 5:Int)=2:=iF h19
   refine En (Lu (Dz ?_))
   refine ar.skip rfl zk cK ?_
   refine En (Lu (Dz ?_))
   refine ar.skip rfl zk cK ?_
   refine En (aL (Lt (LT (Ls (La (Lt (Le (Ly (Dz ?_)))))))))
   refine bg (v:=.bool false) ?_
   have hs22:=(((hs16.pl 3).pl 1).pl 3).pl 3
   have hs23:=hs22.dr 2
   exact⟨rfl,hs23⟩
 ·refine Zg [] ?_
  refine Zp 0 5 [(3,.gen [.map (some vr)])] [(3,[.cell ⟨lp,12,none⟩ (.map (some vr))])] (ak (aG (hs11.cell 2 rfl zk) av) cW) ?_
  refine ar.lookup rfl zk oQ (r:=vr) (k:=bd.vw) (ok:=false) zk hs11 3 rfl (z:=.pointer none) zk (v:=zP wb 0) (by rw [hv0,xA];rfl) ?_
  refine En (aL (Lt (Ls (Ls (Dz ?_)))))
  refine aE.aV [0,0,3,0,8,31,63,127,255,511,1023,2047,4095,8191,16383,32767,65535,131071,262143,524287,65535,1114111,65535,4259839,15794175,33554431,67108863,134217727,268435455,268435455,1073741823,2147483647,4294967295] (.rd 0 (.rd 1 (.rd 3 (.rd 4 (.ef 2 (.rd 5 (.rd 6 (.rd 7 (.rd 8 (.rd 9 (.rd 10 (.rd 11 (.ef 12 (.rd 13 (.rd 14 (.rd 15 (.rd 16 (.rd 17 (.rd 18 (.rd 19 (.rd 20 (.rd 21 (.rd 22 (.rd 23 (.rd 24 (.rd 25 (.rd 26 (.rd 27 (.rd 28 (.rd 29 (.ef 30 (.rd 31 (.rd 32 .done))))))))))))))))))))))))))))))))) zk zk ai zk hs11 ?_
  intro w24 hs25 hw26
  refine Zj (Hl 4 1 0 hs25 Hz) ?_
  have hs27:=hs25.pl 2
  refine aF Tryz.call196 (gf kn bd.vw hvw hs27) ?_
  rintro v29 w30 ⟨rfl,hs28⟩
  refine⟨bw (n:=[.cell ⟨b1,0,none⟩ (.int .i64 2)]) zk (aG (hs28.cell 2 rfl zk) av),?_⟩
  refine Zr 5 2 [] ?_
  rcases Bool.eq_false_or_eq_true (((1+bd.vw % 5):Int) != 2) with h31|h31
  ·refine di 28 true h31 ?_
   have h31':¬ ((1+bd.vw % 5:Int)=2):=jb h31
   refine En (Lu (Dz ?_))
   refine ar.skip rfl zk cK ?_
   refine En (Lu (Dz ?_))
   refine ar.skip rfl zk cK ?_
   refine En (aL (Lt (LT (Ls (La (Lt (Le (Ly (Dz ?_)))))))))
   refine bg (v:=.bool false) ?_
   have hs32:=(((hs28.pl 3).pl 1).pl 3).pl 3
   have hs33:=hs32.dr 2
   exact⟨rfl,hs33⟩
  ·refine di 28 false h31 ?_
   have h31':(1+bd.vw % 5:Int)=2:=iF h31
   exfalso;simp only [hv0] at *;omega
theorem pF {w0 w:World}{L:List aI}{lp:Nat}{vr:Nat}{pa:Nat}{pc:Nat}{ha:Nat}{hc:Nat}{kn:Nat}{pp:Nat}{eb:Nat}{ec:Nat}{vm:Nat}{wb:Nat}{pD:Nat}(k:Nat) (bd:aK) (tg:aO) (gr:Int) (hvw:0<=bd.vw/\bd.vw<18446744073709551616) (hkk:1<=bd.k) (hr:∀ w,St w0 L w->ag w bd.qa bd.ql.length 2 (λk=>aT.cells (bd.ql.getD k aR))) (hs:St w0 (ah lp #[.int .i64 5,.int .u64 0,.int .u64 (kn:Nat),.int .u64 0,.int .u64 0,.int .u64 0,.int .u64 0,.int .u64 0,.int .u64 0,.int .u64 0,.int .u64 0,.int .u64 0,.map (some vr),zL pa 0 5 pc,zL ha 0 5 hc] 187::bC kA gW vr ([((0:Int),wb)])::ah wb #[.int .u64 0,.int .i64 0,.slice none 0 0,.slice none 0 0,.map (some pD)] 182::ah pp #[.int .u64 gr,zL eb 0 1 ec,.map (some vm)] 251::Sl (some ⟨eb,0,none⟩) ec 31 1 bG ([(0:Int)])::L) w):Calls Tryz.prog 178 #[zP lp 0,.agg (an.cells (⟨2,((k:Nat)+1),aA k,bd,tg⟩:an)),zP pp 0] w (aZ λrv w'=>rv=.bool false/\St w0 (ah lp #[.int .i64 5,.int .u64 0,.int .u64 (kn:Nat),.int .u64 0,.int .u64 0,.int .u64 0,.int .u64 0,.int .u64 0,.int .u64 0,.int .u64 0,.int .u64 0,.int .u64 0,.map (some vr),zL pa 0 5 pc,zL ha 0 5 hc] 187::bC kA gW vr ([((0:Int),wb)])::ah wb #[.int .u64 0,.int .i64 0,.slice none 0 0,.slice none 0 0,.map (some pD)] 182::ah pp #[.int .u64 gr,zL eb 0 1 ec,.map (some vm)] 251::Sl (some ⟨eb,0,none⟩) ec 31 1 bG ([(0:Int)])::L) w'):=by
 refine bp Tryz.func178 Tryz.ntmps178 ?_
 refine En (Ls (Lg [0] (Dz ?_)))
 refine ar.box rfl rfl zk (v:=.agg (an.cells (⟨2,((k:Nat)+1),aA k,bd,tg⟩:an))) zk hs (cs:=an.cells (⟨2,((k:Nat)+1),aA k,bd,tg⟩:an)) zk ?_
 intro b1 w2 hs3
 refine Lo (aL (Lt (Ls (Dz ?_))))
 refine bj (Hl 2 0 14 hs3 Hz) ?_
 refine Zt (Zs (?_))
 rcases(show 1<=bd.vw\/bd.vw=0 by omega) with hv1|hv0
 ·refine Zg [] ?_
  refine Zp 0 5 [(3,.gen [.map (some vr)])] [(3,[.cell ⟨lp,12,none⟩ (.map (some vr))])] (ak (aG (hs3.cell 1 rfl zk) av) cW) ?_
  refine ar.lookup rfl zk oQ (r:=vr) (k:=bd.vw) (ok:=false) zk hs3 2 rfl (z:=.pointer none) zk (v:=.pointer none) (by rw [rP (v:=bd.vw) (wb:=wb) za];rfl) ?_
  refine En (aL (Lt (Ls (Lg [2] (Lu (Dz ?_))))))
  have hs4:=hs3.pl 1
  refine aF Tryz.call196 (gf kn bd.vw hvw hs4) ?_
  rintro v6 w7 ⟨rfl,hs5⟩
  refine Lo (aL (Lt (Ls (Dz ?_))))
  refine aE.aV [0,0,2,7,15,31,63,127,255,511,511,511,2559,6655,511,511,33279,511,229887,492031,1032703,2097151,4194303,8388607] (.rd 0 (.rd 1 (.rd 2 (.rd 3 (.rd 4 (.rd 5 (.rd 6 (.rd 7 (.rd 8 (.rd 9 (.rd 10 (.rd 11 (.rd 12 (.rd 13 (.rd 14 (.rd 15 (.rd 16 (.rd 17 (.rd 18 (.rd 19 (.ef 20 (.ef 21 (.rd 22 (.rd 23 .done)))))))))))))))))))))))) zk zk ai zk hs5 ?_
  intro w8 hs9 hw10
  refine Zp 0 5 [(2,.gen [.int .i64 2])] [(2,[.cell ⟨b1,0,none⟩ (.int .i64 2)])] (ak (aG (hs9.cell 1 rfl zk) av) cW) ?_
  rcases Bool.eq_false_or_eq_true (((1+bd.vw % 5):Int) != 2) with h11|h11
  ·refine di 26 true h11 ?_
   have h11':¬ ((1+bd.vw % 5:Int)=2):=jb h11
   refine En (Lu (Dz ?_))
   refine ar.skip rfl zk cK ?_
   refine ar.skip rfl zk cK ?_
   refine En (aL (Lt (Le (Dz ?_))))
   refine bg (v:=.bool false) ?_
   have hs12:=(((((hs9.pl 5).pl 5).pl 5).pl 5).pl 4).pl 5
   have hs13:=hs12.dr 1
   exact⟨rfl,hs13⟩
  ·refine di 26 false h11 ?_
   have h11':(1+bd.vw % 5:Int)=2:=iF h11
   refine En (Lu (Dz ?_))
   refine ar.skip rfl zk cK ?_
   refine ar.skip rfl zk cK ?_
   refine En (aL (Lt (Le (Dz ?_))))
   refine bg (v:=.bool false) ?_
   have hs14:=(((((hs9.pl 5).pl 5).pl 5).pl 5).pl 4).pl 5
   have hs15:=hs14.dr 1
   exact⟨rfl,hs15⟩
 ·refine Zg [] ?_
  refine Zp 0 5 [(3,.gen [.map (some vr)])] [(3,[.cell ⟨lp,12,none⟩ (.map (some vr))])] (ak (aG (hs3.cell 1 rfl zk) av) cW) ?_
  refine ar.lookup rfl zk oQ (r:=vr) (k:=bd.vw) (ok:=false) zk hs3 2 rfl (z:=.pointer none) zk (v:=zP wb 0) (by rw [hv0,xA];rfl) ?_
  refine En (aL (Lt (Ls (Lg [2] (Lu (Dz ?_))))))
  have hs16:=hs3.pl 1
  refine aF Tryz.call196 (gf kn bd.vw hvw hs16) ?_
  rintro v18 w19 ⟨rfl,hs17⟩
  refine Lo (aL (Lt (Ls (Dz ?_))))
  refine aE.aV [0,0,2,7,15,31,63,127,255,511,511,511,2559,6655,511,511,33279,511,229887,492031,1032703,2097151,4194303,8388607] (.rd 0 (.rd 1 (.rd 2 (.rd 3 (.rd 4 (.rd 5 (.rd 6 (.rd 7 (.rd 8 (.rd 9 (.rd 10 (.rd 11 (.rd 12 (.rd 13 (.rd 14 (.rd 15 (.rd 16 (.rd 17 (.rd 18 (.rd 19 (.ef 20 (.ef 21 (.rd 22 (.rd 23 .done)))))))))))))))))))))))) zk zk ai zk hs17 ?_
  intro w20 hs21 hw22
  refine Zp 0 5 [(2,.gen [.int .i64 2])] [(2,[.cell ⟨b1,0,none⟩ (.int .i64 2)])] (ak (aG (hs21.cell 1 rfl zk) av) cW) ?_
  rcases Bool.eq_false_or_eq_true (((1+bd.vw % 5):Int) != 2) with h23|h23
  ·refine di 26 true h23 ?_
   have h23':¬ ((1+bd.vw % 5:Int)=2):=jb h23
   refine Zj (Hl 13 1 15 hs21 (cH 16 ((1+bd.vw % 5)-1) (Hx 18 (((1+bd.vw % 5)-1):Int) (11:Int) b1 2 1 (Hg 19 (.gen [.int .u64 ((aA k).toList.getD (Int.toNat ((1+bd.vw % 5)-1)) 0)]) [.cell ⟨b1,2+((Int.toNat ((1+bd.vw % 5)-1))*1),none⟩ (.int .u64 ((aA k).toList.getD (Int.toNat ((1+bd.vw % 5)-1)) 0))] (aG (hs21.cell 1 rfl (aD.mW (off:=2) (d:=aA k) zk za)) av) Hz)))) ?_
   have hs24:=hs21.pl 3
   refine aF Tryz.call204 (rN ((aA k).toList.getD (Int.toNat ((1+bd.vw % 5)-1)) 0) hs24) ?_
   rintro v26 w27 ⟨rfl,hs25⟩
   refine⟨bw (n:=[.cell ⟨b1,15,none⟩ (.int .u64 bd.k)]) zk (aG (hs25.cell 2 rfl zk) av),?_⟩
   have hs28:=(hs25.pl 5).pl 5
   refine aF Tryz.call203 (pC gr bd.vw bd.k hkk hs28) ?_
   rintro v30 w31 ⟨rfl,hs29⟩
   refine Lo (aL (Lt (Le (Dz ?_))))
   refine bg (v:=.bool false) ?_
   have hs32:=(((((hs29.pl 1).pl 1).pl 2).pl 5).pl 4).pl 5
   have hs33:=hs32.dr 1
   exact⟨rfl,hs33⟩
  ·refine di 26 false h23 ?_
   have h23':(1+bd.vw % 5:Int)=2:=iF h23
   exfalso;simp only [hv0] at *;omega
theorem pG {w0 w:World}{L:List aI}{lp:Nat}{vr:Nat}{pa:Nat}{pc:Nat}{ha:Nat}{hc:Nat}{kn:Nat}{ca:Option Addr}{cc:Nat}(k:Nat) (bd:aK) (tg:aO) (cl:List dG) (hqu:eZ 0 bd.ql=true) (hq5:(bd.ql.any (λq=>decide ((q.rp:Int)>5)))=false) (hcl:cl.length<=70000) (hlq:bd.ql.length<=100) (hvw:0<=bd.vw/\bd.vw<18446744073709551616) (hr:∀ w,St w0 L w->ag w bd.qa bd.ql.length 2 (λk=>aT.cells (bd.ql.getD k aR))) (hs:St w0 (ah lp #[.int .i64 5,.int .u64 0,.int .u64 (kn:Nat),.int .u64 0,.int .u64 0,.int .u64 0,.int .u64 0,.int .u64 0,.int .u64 0,.int .u64 0,.int .u64 0,.int .u64 0,.map (some vr),zL pa 0 5 pc,zL ha 0 5 hc] 187::Sl (some ⟨ha,0,none⟩) hc 306 1 fM.cells ([bK,(⟨ca,cc,cl⟩:fM),bK,bK,bK])::Sl ca cc 308 2 dG.cells cl::L) w):Calls Tryz.prog 197 #[zP lp 0,.agg (an.cells (⟨2,((k:Nat)+1),aA k,bd,tg⟩:an))] w (aZ λrv w'=>rv=.bool false/\St w0 (ah lp #[.int .i64 5,.int .u64 0,.int .u64 (kn:Nat),.int .u64 0,.int .u64 0,.int .u64 0,.int .u64 0,.int .u64 0,.int .u64 0,.int .u64 0,.int .u64 0,.int .u64 0,.map (some vr),zL pa 0 5 pc,zL ha 0 5 hc] 187::Sl (some ⟨ha,0,none⟩) hc 306 1 fM.cells ([bK,(⟨ca,cc,cl⟩:fM),bK,bK,bK])::Sl ca cc 308 2 dG.cells cl::L) w'):=by
 refine bp Tryz.func197 Tryz.ntmps197 ?_
 refine En (Ls (Lg [0] (Dz ?_)))
 refine ar.box rfl rfl zk (v:=.agg (an.cells (⟨2,((k:Nat)+1),aA k,bd,tg⟩:an))) zk hs (cs:=an.cells (⟨2,((k:Nat)+1),aA k,bd,tg⟩:an)) zk ?_
 intro b1 w2 hs3
 refine Lo (aL (Lt (Ls (Ls (Dz ?_)))))
 refine bj (Hl 2 0 56 hs3 Hz) ?_
 refine Zt (Zb (?_))
 refine aE.loop (T:=Nat×(Option Addr)) (λgg=>[(0,zP lp 0),(3,zP b1 0),(9,.slice gg.2 bd.ql.length bd.qc),(10,.int .i64 (bd.ql.length:Nat)),(11,.int .i64 (gg.1:Nat))]) (λgg w=>(gg.1<=bd.ql.length/\(∀ j,j<gg.1->(bd.ql.getD j aR).rp=2)/\∀ w,St w0 L w->ag w gg.2 bd.ql.length 2 (λq=>aT.cells (bd.ql.getD q aR)))/\St w0 (ah b1 (an.cells (⟨2,((k:Nat)+1),aA k,bd,tg⟩:an)) 43::ah lp #[.int .i64 5,.int .u64 0,.int .u64 (kn:Nat),.int .u64 0,.int .u64 0,.int .u64 0,.int .u64 0,.int .u64 0,.int .u64 0,.int .u64 0,.int .u64 0,.int .u64 0,.map (some vr),zL pa 0 5 pc,zL ha 0 5 hc] 187::Sl (some ⟨ha,0,none⟩) hc 306 1 fM.cells ([bK,(⟨ca,cc,cl⟩:fM),bK,bK,bK])::Sl ca cc 308 2 dG.cells cl::L) w) (λgg=>bd.ql.length-gg.1) (0,bd.qa) [0,3,9,10,11] zk ⟨⟨Nat.zero_le _,λj hj=>absurd hj (Nat.not_lt_zero _),hr⟩,hs3⟩ ?_
 rintro⟨i,aq⟩ w4 ⟨hp0,hs5⟩
 have hp:i<=bd.ql.length/\(∀ j,j<i->(bd.ql.getD j aR).rp=2)/\∀ w,St w0 L w->ag w aq bd.ql.length 2 (λq=>aT.cells (bd.ql.getD q aR)):=hp0
 have hs6:St w0 (ah b1 (an.cells (⟨2,((k:Nat)+1),aA k,bd,tg⟩:an)) 43::ah lp #[.int .i64 5,.int .u64 0,.int .u64 (kn:Nat),.int .u64 0,.int .u64 0,.int .u64 0,.int .u64 0,.int .u64 0,.int .u64 0,.int .u64 0,.int .u64 0,.int .u64 0,.map (some vr),zL pa 0 5 pc,zL ha 0 5 hc] 187::Sl (some ⟨ha,0,none⟩) hc 306 1 fM.cells ([bK,(⟨ca,cc,cl⟩:fM),bK,bK,bK])::Sl ca cc 308 2 dG.cells cl::L) w4:=hs5
 refine Zn [(0,zP lp 0),(3,zP b1 0),(9,.slice aq bd.ql.length bd.qc),(10,.int .i64 (bd.ql.length:Nat)),(11,.int .i64 (i:Nat))] ?_
 have hw:=hp.2.2
 refine En (Ls (La (Lt (Ls (Dz ?_)))))
 refine Zi (((i:Nat):Int)<(bd.ql.length:Nat)) (λh7'=>?_) (λh7'=>?_)
 ·have hk:i<bd.ql.length:=za
  have hqe:=qG bd.ql 0 hqu i hk
  have hqe5:=C9 hq5 i hk
  obtain⟨ab8,ao9,rfl⟩:=ag.isSome (hw _ (hs6.drop 4)) za
  refine Zk (Zt (Zs (Zb (Zs (?_)))))
  refine bL [2,3] (Hx 0 ((i:Nat):Int) ((bd.ql.length:Nat):Int) ab8 ao9 2 (Hg 1 (.agg (aT.cells (bd.ql.getD i aR))) [.prop (Array.size (aT.cells (bd.ql.getD i aR))=2),.cells ⟨ab8,ao9+(i*2),none⟩ (aT.cells (bd.ql.getD i aR))] (aB zk (dq (ag.lO (hw _ (hs6.drop 4)) zd (Nat.le_of_ble_eq_true zk) zk) av)) Hz)) ?_
  refine ar.alloc rfl rfl zk (z:=.agg (aT.cells aR)) zk hs6 (cs:=aT.cells aR) zk ?_
  intro b10 w11 hs12
  refine Lo (Dz ?_)
  refine Zv (b:=b10) (off:=0) (v:=.agg (aT.cells (bd.ql.getD i aR))) (ti:=Tryz.t81) zk hs12 0 (cs':=aT.cells (bd.ql.getD i aR)) ?_
  intro w13 hs14
  refine Lo (Ld (Lt (Ls (Dz ?_))))
  refine aE.aV [0,1,0,4,12,0,60,124,255,511,1023,2047,4095,8191,1023,17407,50175,131071,262143,1023,525311,1573887,1023,4195327,16253951,33554431,67108863,134217727] (.rd 0 (.rd 1 (.rd 2 (.rd 3 (.rd 4 (.rd 5 (.rd 6 (.rd 7 (.rd 8 (.rd 9 (.rd 10 (.rd 11 (.rd 12 (.rd 13 (.rd 14 (.rd 15 (.rd 16 (.rd 17 (.rd 18 (.rd 19 (.rd 20 (.rd 21 (.rd 22 (.rd 23 (.rd 24 (.ef 25 (.rd 26 (.rd 27 .done)))))))))))))))))))))))))))) zk zk ai zk hs14 ?_
  intro w15 hs16 hw17
  refine Zp 0 10 [(1,.gen [.int .u64 ((bd.ql.getD i aR).nm)]),(3,.gen [.int .i64 ((bd.ql.getD i aR).rp)]),(4,.cI (.int .i64 (((bd.ql.getD i aR).rp)-1)) (.gen [])),(6,.cI (zP b1 (2+((Int.toNat (((bd.ql.getD i aR).rp)-1))*1))) .at_),(7,.gen [.int .u64 ((aA k).toList.getD (Int.toNat (((bd.ql.getD i aR).rp)-1)) 0)])] [(1,[.cell ⟨b10,1,none⟩ (.int .u64 ((bd.ql.getD i aR).nm))]),(3,[.cell ⟨b10,0,none⟩ (.int .i64 ((bd.ql.getD i aR).rp))]),(4,[.prop (Value.int .i64 (IntKind.i64.wrap (((bd.ql.getD i aR).rp)-1))=Value.int .i64 (((bd.ql.getD i aR).rp)-1))]),(6,[.prop (0<=((((bd.ql.getD i aR).rp)-1):Int)/\((((bd.ql.getD i aR).rp)-1):Int)<(11:Int)),.prop (Value.pointer (some (Addr.add ⟨b1,2,none⟩ (Int.toNat (((bd.ql.getD i aR).rp)-1)*1)))=Value.pointer (some ⟨b1,2+((Int.toNat (((bd.ql.getD i aR).rp)-1))*1),none⟩))]),(7,[.cell ⟨b1,2+((Int.toNat (((bd.ql.getD i aR).rp)-1))*1),none⟩ (.int .u64 ((aA k).toList.getD (Int.toNat (((bd.ql.getD i aR).rp)-1)) 0))])] (ak (aG (hs16.cell 0 rfl zk) av) (ak (aG (hs16.cell 0 rfl zk) av) (ak (aB (dD za za) av) (ak (aB za (aB (aS _ _ _) av)) (ak (aG (hs16.cell 1 rfl (aD.mW (off:=2) (d:=aA k) zk za)) av) cW))))) ?_
  rcases Bool.eq_false_or_eq_true (decide (((bd.ql.getD i aR).nm:Int)>((aA k).toList.getD (Int.toNat (((bd.ql.getD i aR).rp)-1)) 0))) with h18|h18
  ·refine di 24 true h18 ?_
   have h18':((bd.ql.getD i aR).nm:Int)>((aA k).toList.getD (Int.toNat (((bd.ql.getD i aR).rp)-1)) 0):=of_decide_eq_true h18
   refine En (Lu (Dz ?_))
   refine ar.skip rfl zk cK ?_
   refine En (aL (Lt (LT (Ls (La (Lt (Le (Ll (Ly (uk (Ll (Ly (Dz ?_)))))))))))))
   refine bg (v:=.bool false) ?_
   have hs19:=hs16.dr 2
   exact⟨rfl,hs19⟩
  ·refine di 24 false h18 ?_
   have h18':¬ (((bd.ql.getD i aR).nm:Int)>((aA k).toList.getD (Int.toNat (((bd.ql.getD i aR).rp)-1)) 0)):=of_decide_eq_false h18
   have hrp:(bd.ql.getD i aR).rp=2:=by
    by_cases g:(bd.ql.getD i aR).rp=2
    ·exact g
    ·exfalso
     rw [dL,if_neg za] at h18
     simp only [decide_eq_false_iff_not] at h18
     omega
   have hqc:(([bK,(⟨ca,cc,cl⟩:fM),bK,bK,bK]).getD (Int.toNat (((bd.ql.getD i aR).rp)-1)) bK).cl.length=cl.length:=by rw [hrp];rfl
   refine Zj (Hl 13 2 14 hs16 (Hl 15 0 0 hs16 (cH 16 (((bd.ql.getD i aR).rp)-1) (Hx 17 ((((bd.ql.getD i aR).rp)-1):Int) (5:Int) ha 0 1 (Hg 18 (.gen [.slice ((([bK,(⟨ca,cc,cl⟩:fM),bK,bK,bK]).getD (Int.toNat (((bd.ql.getD i aR).rp)-1)) bK).ca) ((([bK,(⟨ca,cc,cl⟩:fM),bK,bK,bK]).getD (Int.toNat (((bd.ql.getD i aR).rp)-1)) bK).cl.length) ((([bK,(⟨ca,cc,cl⟩:fM),bK,bK,bK]).getD (Int.toNat (((bd.ql.getD i aR).rp)-1)) bK).cc)]) [.cell ⟨ha,0+((Int.toNat (((bd.ql.getD i aR).rp)-1))*1),none⟩ (.slice ((([bK,(⟨ca,cc,cl⟩:fM),bK,bK,bK]).getD (Int.toNat (((bd.ql.getD i aR).rp)-1)) bK).ca) ((([bK,(⟨ca,cc,cl⟩:fM),bK,bK,bK]).getD (Int.toNat (((bd.ql.getD i aR).rp)-1)) bK).cl.length) ((([bK,(⟨ca,cc,cl⟩:fM),bK,bK,bK]).getD (Int.toNat (((bd.ql.getD i aR).rp)-1)) bK).cc))] (aG (ag.cC (hs16.rows 3 rfl tO.size bK) (k:=Int.toNat (((bd.ql.getD i aR).rp)-1)) zd (j:=0) zf zk) av) (Hl 21 1 14 hs16 (Hl 23 0 1 hs16 Hz))))))) ?_
   refine aF (f:=211) (args:=#[.slice ((([bK,(⟨ca,cc,cl⟩:fM),bK,bK,bK]).getD (Int.toNat (((bd.ql.getD i aR).rp)-1)) bK).ca) (((([bK,(⟨ca,cc,cl⟩:fM),bK,bK,bK]).getD (Int.toNat (((bd.ql.getD i aR).rp)-1)) bK).cl).length) ((([bK,(⟨ca,cc,cl⟩:fM),bK,bK,bK]).getD (Int.toNat (((bd.ql.getD i aR).rp)-1)) bK).cc),.agg (dG.cells (⟨bd.vw,(bd.ql.getD i aR).nm⟩:dG))]) Tryz.call211 (vZ ((([bK,(⟨ca,cc,cl⟩:fM),bK,bK,bK]).getD (Int.toNat (((bd.ql.getD i aR).rp)-1)) bK).cl) (⟨bd.vw,(bd.ql.getD i aR).nm⟩:dG) za (λw h=>by rw [hrp];exact(h.rows 4 rfl B5.size _)) hs16) ?_
   rintro v22 w23 ⟨ob20,rfl,hs21⟩
   refine Lo (aL (Lt (Dz ?_)))
   refine cS (t:=!ob20) (λh24=>?_) (λh24=>?_)
   ·have h24n:ob20=false:=kL h24
    refine En (Ls (La (Lt (Le (Ll (Ly (uk (Ll (Ly (Dz ?_))))))))))
    refine bg (v:=.bool false) ?_
    have hs25:=hs21.dr 2
    exact⟨rfl,hs25⟩
   ·have h24n:ob20=true:=km h24
    refine Zk (Zm (Zt (?_)))
    refine bj (cH 0 ((i:Nat)+1) Hz) ?_
    have hs26:=hs21.dr 1
    exact aw.back (i+1,some ⟨ab8,ao9,none⟩) [0,3,9,10,11] zk (by show bd.ql.length-(i+1)<bd.ql.length-i;omega) ⟨⟨za,λj hj=>(Nat.lt_or_ge j i).elim (λh=>hp.2.1 j h) (λh=>by obtain rfl:j=i:=za;exact hrp),hw⟩,hs26⟩
 ·refine Zx (aw.da (aw.dc (aw.jR (Zt (Zs (?_))))))
  refine aE.aV [0,1,3,7,0,16,48,112,240,496,1023,2047] (.rd 0 (.rd 1 (.rd 2 (.rd 3 (.rd 4 (.rd 5 (.rd 6 (.rd 7 (.rd 8 (.rd 9 (.rd 10 (.rd 11 .done)))))))))))) zk zk ai zk hs6 ?_
  intro w27 hs28 hw29
  refine gY (Hl 2 0 56 hs28 (Hl 7 1 0 hs28 (Hg 8 (.div 2) [.prop (IntKind.i64=IntKind.i64/\(2:Int)≠0/\IntKind.i64.wrap (Int.tdiv 5 2)=2)] (aB zf av) Hz))) ?_
  refine Zt (Ze (?_))
  refine bg (v:=.bool (((bd.ql.length:Nat):Int) == 3)) ?_
  have hs30:=hs28.dr 1
  exact⟨(by have hl1:=yR hqu (λj hj=>hp.2.1 j za);simp only [Value.bool.injEq];exact beq_eq_false_iff_ne.2 za),hs30⟩
theorem tP {w0 w:World}{L:List aI}{lp:Nat}{vr:Nat}{pa:Nat}{pc:Nat}{ha:Nat}{hc:Nat}{kn:Nat}{ca:Option Addr}{cc:Nat}{pp:Nat}(k:Nat) (bd:aK) (tg:aO) (cl:List dG) (hqu:eZ 0 bd.ql=true) (hq5:(bd.ql.any (λq=>decide ((q.rp:Int)>5)))=false) (hcl:cl.length<=70000) (hlq:bd.ql.length<=100) (hvw:0<=bd.vw/\bd.vw<18446744073709551616) (hr:∀ w,St w0 L w->ag w bd.qa bd.ql.length 2 (λk=>aT.cells (bd.ql.getD k aR))) (hs:St w0 (ah lp #[.int .i64 5,.int .u64 0,.int .u64 (kn:Nat),.int .u64 0,.int .u64 0,.int .u64 0,.int .u64 0,.int .u64 0,.int .u64 0,.int .u64 0,.int .u64 0,.int .u64 0,.map (some vr),zL pa 0 5 pc,zL ha 0 5 hc] 187::Sl (some ⟨ha,0,none⟩) hc 306 1 fM.cells ([bK,(⟨ca,cc,cl⟩:fM),bK,bK,bK])::Sl ca cc 308 2 dG.cells cl::L) w):Calls Tryz.prog 175 #[zP lp 0,.agg (an.cells (⟨2,((k:Nat)+1),aA k,bd,tg⟩:an)),zP pp 0] w (aZ λrv w'=>rv=.bool false/\St w0 (ah lp #[.int .i64 5,.int .u64 0,.int .u64 (kn:Nat),.int .u64 0,.int .u64 0,.int .u64 0,.int .u64 0,.int .u64 0,.int .u64 0,.int .u64 0,.int .u64 0,.int .u64 0,.map (some vr),zL pa 0 5 pc,zL ha 0 5 hc] 187::Sl (some ⟨ha,0,none⟩) hc 306 1 fM.cells ([bK,(⟨ca,cc,cl⟩:fM),bK,bK,bK])::Sl ca cc 308 2 dG.cells cl::L) w'):=by
 refine bp Tryz.func175 Tryz.ntmps175 ?_
 refine En (Ls (Lg [0] (Dz ?_)))
 refine ar.box rfl rfl zk (v:=.agg (an.cells (⟨2,((k:Nat)+1),aA k,bd,tg⟩:an))) zk hs (cs:=an.cells (⟨2,((k:Nat)+1),aA k,bd,tg⟩:an)) zk ?_
 intro b1 w2 hs3
 refine Lo (aL (Lt (Ls (Dz ?_))))
 refine bj (Hl 2 0 14 hs3 Hz) ?_
 refine Zt (Zs (Zs (?_)))
 refine aE.aV [0,0,3,0,8,31,63,127,127,511,1023,2047] (.rd 0 (.rd 1 (.rd 3 (.rd 4 (.ef 2 (.rd 5 (.rd 6 (.rd 7 (.rd 8 (.ef 9 (.rd 10 (.rd 11 .done)))))))))))) zk zk ai zk hs3 ?_
 intro w4 hs5 hw6
 refine Zj (Hl 4 0 0 hs5 Hz) ?_
 have hs7:=hs5.pl 1
 refine aF Tryz.call196 (gf kn bd.vw hvw hs7) ?_
 rintro v9 w10 ⟨rfl,hs8⟩
 refine⟨bw (n:=[.cell ⟨b1,0,none⟩ (.int .i64 2)]) zk (aG (hs8.cell 1 rfl zk) av),?_⟩
 refine Zr 5 2 [] ?_
 rcases Bool.eq_false_or_eq_true (((1+bd.vw % 5):Int) != 2) with h11|h11
 ·refine di 24 true h11 ?_
  have h11':¬ ((1+bd.vw % 5:Int)=2):=jb h11
  refine En (Lu (Dz ?_))
  refine ar.skip rfl zk cK ?_
  refine En (aL (Lt (LT (Ls (La (Lt (Le (Ly (Dz ?_)))))))))
  refine bg (v:=.bool false) ?_
  have hs12:=(((hs8.pl 3).pl 3).pl 2).pl 3
  have hs13:=hs12.dr 1
  exact⟨rfl,hs13⟩
 ·refine di 24 false h11 ?_
  have h11':(1+bd.vw % 5:Int)=2:=iF h11
  refine Zj (du 8 1 0 121 (an.cells (⟨2,((k:Nat)+1),aA k,bd,tg⟩:an)) hs8 Hz) ?_
  have hs14:=((hs8.pl 3).pl 3).pl 2
  refine aF Tryz.call197 (pG k bd tg cl hqu hq5 hcl hlq hvw (λw h=>hr _ (h.drop 1)) hs14) ?_
  rintro v16 w17 ⟨rfl,hs15⟩
  refine Lo (aL (Lt (LT (Ls (La (Lt (Le (Ly (Dz ?_)))))))))
  refine bg (v:=.bool false) ?_
  have hs18:=(((hs15.pl 2).pl 2).pl 2).pl 3
  have hs19:=hs18.dr 1
  exact⟨rfl,hs19⟩
theorem A7 {w0 w:World}{L:List aI}{bx:Nat}{lp:Nat}{vr:Nat}{pa:Nat}{pc:Nat}{ha:Nat}{hc:Nat}(q:aT) (k:Nat) (hs:St w0 (ah bx #[zP lp 0] 106::ah lp #[.int .i64 5,.int .u64 0,.int .u64 (k:Nat),.int .u64 0,.int .u64 0,.int .u64 0,.int .u64 0,.int .u64 0,.int .u64 0,.int .u64 0,.int .u64 0,.int .u64 0,.map (some vr),zL pa 0 5 pc,zL ha 0 5 hc] 187::L) w):Calls Tryz.prog 138 #[.agg (aT.cells q),zP bx 0] w (aZ λrv w'=>rv=.bool (decide ((q.rp:Int)>5))/\St w0 (ah bx #[zP lp 0] 106::ah lp #[.int .i64 5,.int .u64 0,.int .u64 (k:Nat),.int .u64 0,.int .u64 0,.int .u64 0,.int .u64 0,.int .u64 0,.int .u64 0,.int .u64 0,.int .u64 0,.int .u64 0,.map (some vr),zL pa 0 5 pc,zL ha 0 5 hc] 187::L) w'):=by
 refine bp Tryz.func138 Tryz.ntmps138 ?_
 refine En (Ls (Lg [0] (Dz ?_)))
 refine ar.box rfl rfl zk (v:=.agg (aT.cells q)) zk hs (cs:=aT.cells q) zk ?_
 intro b1 w2 hs3
 refine Lo (aL (Lt (Ls (Dz ?_))))
 refine aE.aV [0,1,0,4,12,28,63,127] (.rd 0 (.rd 1 (.rd 2 (.rd 3 (.rd 4 (.rd 5 (.rd 6 (.rd 7 .done)))))))) zk zk ai zk hs3 ?_
 intro w4 hs5 hw6
 refine gY (Hl 1 0 0 hs5 (Hl 2 1 0 hs5 (Hl 5 2 0 hs5 Hz))) ?_
 refine Zt (Ze (?_))
 refine bg (v:=.bool (decide ((q.rp:Int)>5))) ?_
 have hs7:=hs5.dr 1
 exact⟨rfl,hs7⟩
theorem A8 {w0 w:World}{L:List aI}{al:Option Addr}{cl:Nat}{bx:Nat}{lp:Nat}{vr:Nat}{pa:Nat}{pc:Nat}{ha:Nat}{hc:Nat}(l:List aT) (k:Nat) (hll:l.length<=100000) (hr:∀ w,St w0 L w->ag w al l.length 2 (λk=>aT.cells (l.getD k aR))) (hs:St w0 (ah bx #[zP lp 0] 106::ah lp #[.int .i64 5,.int .u64 0,.int .u64 (k:Nat),.int .u64 0,.int .u64 0,.int .u64 0,.int .u64 0,.int .u64 0,.int .u64 0,.int .u64 0,.int .u64 0,.int .u64 0,.map (some vr),zL pa 0 5 pc,zL ha 0 5 hc] 187::L) w):Calls Tryz.prog 29 #[.slice al l.length cl,.func (.func 138) #[] #[zP bx 0]] w (aZ λrv w'=>rv=.bool (l.any (λq=>decide ((q.rp:Int)>5)))/\St w0 (ah bx #[zP lp 0] 106::ah lp #[.int .i64 5,.int .u64 0,.int .u64 (k:Nat),.int .u64 0,.int .u64 0,.int .u64 0,.int .u64 0,.int .u64 0,.int .u64 0,.int .u64 0,.int .u64 0,.int .u64 0,.map (some vr),zL pa 0 5 pc,zL ha 0 5 hc] 187::L) w'):=by
 refine Calls.ret (mj l 138 bx (tv [ah bx #[zP lp 0] 106,ah lp #[.int .i64 5,.int .u64 0,.int .u64 (k:Nat),.int .u64 0,.int .u64 0,.int .u64 0,.int .u64 0,.int .u64 0,.int .u64 0,.int .u64 0,.int .u64 0,.int .u64 0,.map (some vr),zL pa 0 5 pc,zL ha 0 5 hc] 187]) (λq=>decide ((q.rp:Int)>5)) hll Tryz.call138 (λq L w h=>?_) hr (St.ki (l:=[_,_]) hs)) ?_
 ·refine Calls.ret (A7 q k  (St.splits h)) ?_
  rintro v w2 ⟨rfl,h2⟩
  exact⟨rfl,St.ki (l:=[_,_]) h2⟩
 ·rintro v w2 ⟨rfl,h2⟩
  exact⟨rfl,St.splits h2⟩
structure Cx where
 vr:Nat
 wb:Nat
 pD:Nat
 pa:Nat
 pc:Nat
 ha:Nat
 hc:Nat
 pb:Nat
 q0:Nat×Nat
 q2:Nat×Nat
 q3:Nat×Nat
 q4:Nat×Nat
 ca:Option Addr
 cc:Nat
 cl:List dG
 gr:Int
 eb:Nat
 ec:Nat
 vm:Nat
def Cx.ok (g:Cx) (k:Nat):Prop:=(0<=g.gr/\g.gr<18446744073709551616)/\g.cl.length<=k
def LG (lp k:Nat) (g:Cx):aI:=Bd (g.ok k) [ah lp #[.int .i64 5,.int .u64 0,.int .u64 (k:Nat),.int .u64 0,.int .u64 0,.int .u64 0,.int .u64 0,.int .u64 0,.int .u64 0,.int .u64 0,.int .u64 0,.int .u64 0,.map (some g.vr),zL g.pa 0 5 g.pc,zL g.ha 0 5 g.hc] 187,Sl (some ⟨g.ha,0,none⟩) g.hc 306 1 fM.cells ([bK,(⟨g.ca,g.cc,g.cl⟩:fM),bK,bK,bK]),Sl g.ca g.cc 308 2 dG.cells g.cl,Sl (some ⟨g.pa,0,none⟩) g.pc 188 1 cO ([g.q0,(g.pb,0),g.q2,g.q3,g.q4]),ah g.pb #[.int .u64 g.gr,zL g.eb 0 1 g.ec,.map (some g.vm)] 251,Sl (some ⟨g.eb,0,none⟩) g.ec 31 1 bG ([(0:Int)]),bC kA gW g.vr ([((0:Int),g.wb)]),ah g.wb #[.int .u64 0,.int .i64 0,.slice none 0 0,.slice none 0 0,.map (some g.pD)] 182]
theorem tQ {w0 w:World}{L:List aI}{lp:Nat}(k:Nat) (bd:aK) (tg:aO) (gg:Cx) (hm:fa (⟨2,((k:Nat)+1),aA k,bd,tg⟩:an)) (hmay:cZ (⟨2,((k:Nat)+1),aA k,bd,tg⟩:an)=true) (hq5:(bd.ql.any (λq=>decide ((q.rp:Int)>5)))=false) (hqs:Nn bd.qa bd.qc) (hr:∀ w,St w0 L w->ag w bd.qa bd.ql.length 2 (λk=>aT.cells (bd.ql.getD k aR))) (hs:St w0 (LG lp k gg::L) w):Calls Tryz.prog 103 #[zP lp 0,.agg (an.cells (⟨2,((k:Nat)+1),aA k,bd,tg⟩:an))] w (aZ λrv w'=>∃ (ob2:Bool) (gg2:Cx),rv=.tuple #[.bool ob2,.int .i64 0]/\St w0 (LG lp (k+1) gg2::L) w'):=by
 have hlq:bd.ql.length<=100:=iO hmay
 have hkm:k+1<=65536:=by have:=(gQ hmay).2.2;simp only at this;omega
 have hmb:eo bd=true:=xz hmay
 have hkd:1<=bd.kd/\bd.kd<=6:=(fJ (gD hmay)).1
 have hvw:0<=bd.vw/\bd.vw<18446744073709551616:=by have:=hm.bd.vw;simp only at this;omega
 obtain⟨vr,wb,pD,pa,pc,ha,hc,pb,q0,q2,q3,q4,ca,cc,cl,gr,eb,ec,vm⟩:=gg
 obtain⟨hg2,hs10⟩:=Bd.open hs
 have hs1:St w0 (ah lp #[.int .i64 5,.int .u64 0,.int .u64 (k:Nat),.int .u64 0,.int .u64 0,.int .u64 0,.int .u64 0,.int .u64 0,.int .u64 0,.int .u64 0,.int .u64 0,.int .u64 0,.map (some vr),zL pa 0 5 pc,zL ha 0 5 hc] 187::Sl (some ⟨ha,0,none⟩) hc 306 1 fM.cells ([bK,(⟨ca,cc,cl⟩:fM),bK,bK,bK])::Sl ca cc 308 2 dG.cells cl::Sl (some ⟨pa,0,none⟩) pc 188 1 cO ([q0,(pb,0),q2,q3,q4])::ah pb #[.int .u64 gr,zL eb 0 1 ec,.map (some vm)] 251::Sl (some ⟨eb,0,none⟩) ec 31 1 bG ([(0:Int)])::bC kA gW vr ([((0:Int),wb)])::ah wb #[.int .u64 0,.int .i64 0,.slice none 0 0,.slice none 0 0,.map (some pD)] 182::L) w:=hs10
 have hg:0<=gr/\gr<18446744073709551616:=hg2.1
 have hcl0:cl.length<=k:=hg2.2
 refine bp Tryz.func103 Tryz.ntmps103 ?_
 refine En (Ls (Lg [0,1] (Dz ?_)))
 refine ar.box rfl rfl zk (v:=zP lp 0) zk hs1 (cs:=#[zP lp 0]) zk ?_
 intro b3 w4 hs5
 refine Lo (Dz ?_)
 refine ar.box rfl rfl zk (v:=.agg (an.cells (⟨2,((k:Nat)+1),aA k,bd,tg⟩:an))) zk hs5 (cs:=an.cells (⟨2,((k:Nat)+1),aA k,bd,tg⟩:an)) zk ?_
 intro b6 w7 hs8
 refine Lo (aL (Lt (Ls (Lb (Ls (Dz ?_))))))
 refine bj (Hl 0 1 0 hs8 Hz) ?_
 refine En (Lt (LF (Ls (Ls (Dz ?_)))))
 refine bL [1] (du 0 0 0 121 (an.cells (⟨2,((k:Nat)+1),aA k,bd,tg⟩:an)) hs8 Hz) ?_
 refine aF (f:=28) (args:=#[.agg (an.cells (⟨2,((k:Nat)+1),aA k,bd,tg⟩:an))]) Tryz.call28 (gM (⟨2,((k:Nat)+1),aA k,bd,tg⟩:an) hm (λw h=>hr _ (h.drop 10)) hs8) ?_
 rintro v10 w11 ⟨rfl,hs9⟩
 refine Lo (aL (Lt (Dz ?_)))
 refine cS (t:=!(cZ (⟨2,((k:Nat)+1),aA k,bd,tg⟩:an))) (λhc=>absurd ((congrArg not hmay).symm.trans hc) zf) (λ_=>?_)
 refine Zs (?_)
 refine aE.aV [0,1,0,4,12,28,63,127] (.rd 0 (.rd 1 (.rd 2 (.rd 3 (.rd 4 (.rd 5 (.rd 6 (.rd 7 .done)))))))) zk zk ai zk hs9 ?_
 intro w12 hs13 hw14
 refine gY (Hl 1 0 0 hs13 (Hl 2 1 0 hs13 (Hl 5 2 0 hs13 Hz))) ?_
 refine En (Lt (LF (Dz ?_)))
 refine bL [4] (Hl 2 0 56 hs13 Hz) ?_
 have hs15:=(hs13.pl 2).pl 2
 refine aF (f:=29) (args:=#[.slice bd.qa bd.ql.length bd.qc,.func (.func 138) #[] #[zP b3 0]]) Tryz.call29 (A8 bd.ql k (by have:=iO hmay;simp only at this;omega) (λw h=>hr _ (h.drop 8)) hs15) ?_
 rintro v17 w18 ⟨rfl,hs16⟩
 refine Lo (aL (Lt (Dz ?_)))
 refine cS (t:=bd.ql.any (λq=>decide ((q.rp:Int)>5))) (λhc=>absurd (hq5.symm.trans hc) zf) (λ_=>?_)
 refine Zs (?_)
 refine aE.aV [0,1,0,0,8,24,4,68,252,508,1020,2047,4095] (.rd 0 (.rd 1 (.rd 2 (.rd 3 (.rd 4 (.rd 5 (.rd 6 (.rd 7 (.rd 8 (.rd 9 (.rd 10 (.rd 11 (.rd 12 .done))))))))))))) zk zk ai zk hs16 ?_
 intro w19 hs20 hw21
 refine gY (Hl 1 2 1 hs20 (Hl 2 0 0 hs20 (Hl 4 2 0 hs20 (Hx 8 (1:Int) (11:Int) lp 1 1 (Hl 9 1 2 hs20 (qU 10 ((k:Nat)+1) Hz)))))) ?_
 refine Zt (?_)
 refine cS (t:=(((k:Nat)+1):Int) != ((k:Nat)+1)) (λh22=>?_) (λh22=>?_)
 ·have h22':¬ ((((k:Nat)+1):Int)=((k:Nat)+1)):=jb h22
  exfalso;omega
 ·have h22':(((k:Nat)+1):Int)=((k:Nat)+1):=iF h22
  refine Zk (Zm (Zt (Zs (Zs (?_)))))
  refine bj (du 1 2 2 11 (aD.cells (aA k)) hs20 Hz) ?_
  refine Zt (Zb (?_))
  refine aE.dJ 12 ?_
  refine En (Ls (La (Lt (Ls (LT (Lk (Lt (Ls (Lb (Ls (Dz ?_)))))))))))
  refine bj (Hg 1 (.elem (.int .u64 ((aA k).toList.getD 0 0))) [.prop (0<=(0:Int)/\(0:Int)<(11:Int)),.prop ((aD.cells (aA k))[Int.toNat (0)*1]?=some (.int .u64 ((aA k).toList.getD 0 0)))] (aB za (aB (by rw [Nat.mul_one];exact aD.at_ _ 0 za) av)) Hz) ?_
  refine Zt (Zs (?_))
  refine bj (Hl 1 0 0 hs20 (Hx 5 (0:Int) (11:Int) lp 1 1 (Hl 6 1 1 hs20 Hz))) ?_
  refine Zt (?_)
  refine Zi ((((aA k).toList.getD 0 0):Int)>0) (λh23'=>?_) (λh23'=>?_)
  ·exfalso;have hz:=(decide_eq_true h23');rw [dL] at hz;simp at hz
  ·refine En (Lk (Lm (Lt (La (Dz ?_)))))
   refine aw.again ?_
   refine En (Ls (La (Lt (Ls (LT (Lk (Lt (Ls (Lb (Ls (Dz ?_)))))))))))
   refine bj (Hg 1 (.elem (.int .u64 ((aA k).toList.getD 1 0))) [.prop (0<=(1:Int)/\(1:Int)<(11:Int)),.prop ((aD.cells (aA k))[Int.toNat (1)*1]?=some (.int .u64 ((aA k).toList.getD 1 0)))] (aB za (aB (by rw [Nat.mul_one];exact aD.at_ _ 1 za) av)) Hz) ?_
   refine Zt (Zs (?_))
   refine bj (Hl 1 0 0 hs20 (Hx 5 (1:Int) (11:Int) lp 1 1 (Hl 6 1 2 hs20 Hz))) ?_
   refine Zt (?_)
   refine Zi ((((aA k).toList.getD 1 0):Int)>(k:Nat)) (λh24'=>?_) (λh24'=>?_)
   ·exfalso;have hz:=(decide_eq_true h24');rw [dL] at hz;simp at hz
   ·refine En (Lk (Lm (Lt (La (Dz ?_)))))
    refine aw.again ?_
    refine En (Ls (La (Lt (Ls (LT (Lk (Lt (Ls (Lb (Ls (Dz ?_)))))))))))
    refine bj (Hg 1 (.elem (.int .u64 ((aA k).toList.getD 2 0))) [.prop (0<=(2:Int)/\(2:Int)<(11:Int)),.prop ((aD.cells (aA k))[Int.toNat (2)*1]?=some (.int .u64 ((aA k).toList.getD 2 0)))] (aB za (aB (by rw [Nat.mul_one];exact aD.at_ _ 2 za) av)) Hz) ?_
    refine Zt (Zs (?_))
    refine bj (Hl 1 0 0 hs20 (Hx 5 (2:Int) (11:Int) lp 1 1 (Hl 6 1 3 hs20 Hz))) ?_
    refine Zt (?_)
    refine Zi ((((aA k).toList.getD 2 0):Int)>0) (λh25'=>?_) (λh25'=>?_)
    ·exfalso;have hz:=(decide_eq_true h25');rw [dL] at hz;simp at hz
    ·refine En (Lk (Lm (Lt (La (Dz ?_)))))
     refine aw.again ?_
     refine En (Ls (La (Lt (Ls (LT (Lk (Lt (Ls (Lb (Ls (Dz ?_)))))))))))
     refine bj (Hg 1 (.elem (.int .u64 ((aA k).toList.getD 3 0))) [.prop (0<=(3:Int)/\(3:Int)<(11:Int)),.prop ((aD.cells (aA k))[Int.toNat (3)*1]?=some (.int .u64 ((aA k).toList.getD 3 0)))] (aB za (aB (by rw [Nat.mul_one];exact aD.at_ _ 3 za) av)) Hz) ?_
     refine Zt (Zs (?_))
     refine bj (Hl 1 0 0 hs20 (Hx 5 (3:Int) (11:Int) lp 1 1 (Hl 6 1 4 hs20 Hz))) ?_
     refine Zt (?_)
     refine Zi ((((aA k).toList.getD 3 0):Int)>0) (λh26'=>?_) (λh26'=>?_)
     ·exfalso;have hz:=(decide_eq_true h26');rw [dL] at hz;simp at hz
     ·refine En (Lk (Lm (Lt (La (Dz ?_)))))
      refine aw.again ?_
      refine En (Ls (La (Lt (Ls (LT (Lk (Lt (Ls (Lb (Ls (Dz ?_)))))))))))
      refine bj (Hg 1 (.elem (.int .u64 ((aA k).toList.getD 4 0))) [.prop (0<=(4:Int)/\(4:Int)<(11:Int)),.prop ((aD.cells (aA k))[Int.toNat (4)*1]?=some (.int .u64 ((aA k).toList.getD 4 0)))] (aB za (aB (by rw [Nat.mul_one];exact aD.at_ _ 4 za) av)) Hz) ?_
      refine Zt (Zs (?_))
      refine bj (Hl 1 0 0 hs20 (Hx 5 (4:Int) (11:Int) lp 1 1 (Hl 6 1 5 hs20 Hz))) ?_
      refine Zt (?_)
      refine Zi ((((aA k).toList.getD 4 0):Int)>0) (λh27'=>?_) (λh27'=>?_)
      ·exfalso;have hz:=(decide_eq_true h27');rw [dL] at hz;simp at hz
      ·refine En (Lk (Lm (Lt (La (Dz ?_)))))
       refine aw.again ?_
       refine En (Ls (La (Lt (Ls (LT (Lk (Lt (Ls (Lb (Ls (Dz ?_)))))))))))
       refine bj (Hg 1 (.elem (.int .u64 ((aA k).toList.getD 5 0))) [.prop (0<=(5:Int)/\(5:Int)<(11:Int)),.prop ((aD.cells (aA k))[Int.toNat (5)*1]?=some (.int .u64 ((aA k).toList.getD 5 0)))] (aB za (aB (by rw [Nat.mul_one];exact aD.at_ _ 5 za) av)) Hz) ?_
       refine Zt (Zs (?_))
       refine bj (Hl 1 0 0 hs20 (Hx 5 (5:Int) (11:Int) lp 1 1 (Hl 6 1 6 hs20 Hz))) ?_
       refine Zt (?_)
       refine Zi ((((aA k).toList.getD 5 0):Int)>0) (λh28'=>?_) (λh28'=>?_)
       ·exfalso;have hz:=(decide_eq_true h28');rw [dL] at hz;simp at hz
       ·refine En (Lk (Lm (Lt (La (Dz ?_)))))
        refine aw.again ?_
        refine En (Ls (La (Lt (Ls (LT (Lk (Lt (Ls (Lb (Ls (Dz ?_)))))))))))
        refine bj (Hg 1 (.elem (.int .u64 ((aA k).toList.getD 6 0))) [.prop (0<=(6:Int)/\(6:Int)<(11:Int)),.prop ((aD.cells (aA k))[Int.toNat (6)*1]?=some (.int .u64 ((aA k).toList.getD 6 0)))] (aB za (aB (by rw [Nat.mul_one];exact aD.at_ _ 6 za) av)) Hz) ?_
        refine Zt (Zs (?_))
        refine bj (Hl 1 0 0 hs20 (Hx 5 (6:Int) (11:Int) lp 1 1 (Hl 6 1 7 hs20 Hz))) ?_
        refine Zt (?_)
        refine Zi ((((aA k).toList.getD 6 0):Int)>0) (λh29'=>?_) (λh29'=>?_)
        ·exfalso;have hz:=(decide_eq_true h29');rw [dL] at hz;simp at hz
        ·refine En (Lk (Lm (Lt (La (Dz ?_)))))
         refine aw.again ?_
         refine En (Ls (La (Lt (Ls (LT (Lk (Lt (Ls (Lb (Ls (Dz ?_)))))))))))
         refine bj (Hg 1 (.elem (.int .u64 ((aA k).toList.getD 7 0))) [.prop (0<=(7:Int)/\(7:Int)<(11:Int)),.prop ((aD.cells (aA k))[Int.toNat (7)*1]?=some (.int .u64 ((aA k).toList.getD 7 0)))] (aB za (aB (by rw [Nat.mul_one];exact aD.at_ _ 7 za) av)) Hz) ?_
         refine Zt (Zs (?_))
         refine bj (Hl 1 0 0 hs20 (Hx 5 (7:Int) (11:Int) lp 1 1 (Hl 6 1 8 hs20 Hz))) ?_
         refine Zt (?_)
         refine Zi ((((aA k).toList.getD 7 0):Int)>0) (λh30'=>?_) (λh30'=>?_)
         ·exfalso;have hz:=(decide_eq_true h30');rw [dL] at hz;simp at hz
         ·refine En (Lk (Lm (Lt (La (Dz ?_)))))
          refine aw.again ?_
          refine En (Ls (La (Lt (Ls (LT (Lk (Lt (Ls (Lb (Ls (Dz ?_)))))))))))
          refine bj (Hg 1 (.elem (.int .u64 ((aA k).toList.getD 8 0))) [.prop (0<=(8:Int)/\(8:Int)<(11:Int)),.prop ((aD.cells (aA k))[Int.toNat (8)*1]?=some (.int .u64 ((aA k).toList.getD 8 0)))] (aB za (aB (by rw [Nat.mul_one];exact aD.at_ _ 8 za) av)) Hz) ?_
          refine Zt (Zs (?_))
          refine bj (Hl 1 0 0 hs20 (Hx 5 (8:Int) (11:Int) lp 1 1 (Hl 6 1 9 hs20 Hz))) ?_
          refine Zt (?_)
          refine Zi ((((aA k).toList.getD 8 0):Int)>0) (λh31'=>?_) (λh31'=>?_)
          ·exfalso;have hz:=(decide_eq_true h31');rw [dL] at hz;simp at hz
          ·refine En (Lk (Lm (Lt (La (Dz ?_)))))
           refine aw.again ?_
           refine En (Ls (La (Lt (Ls (LT (Lk (Lt (Ls (Lb (Ls (Dz ?_)))))))))))
           refine bj (Hg 1 (.elem (.int .u64 ((aA k).toList.getD 9 0))) [.prop (0<=(9:Int)/\(9:Int)<(11:Int)),.prop ((aD.cells (aA k))[Int.toNat (9)*1]?=some (.int .u64 ((aA k).toList.getD 9 0)))] (aB za (aB (by rw [Nat.mul_one];exact aD.at_ _ 9 za) av)) Hz) ?_
           refine Zt (Zs (?_))
           refine bj (Hl 1 0 0 hs20 (Hx 5 (9:Int) (11:Int) lp 1 1 (Hl 6 1 10 hs20 Hz))) ?_
           refine Zt (?_)
           refine Zi ((((aA k).toList.getD 9 0):Int)>0) (λh32'=>?_) (λh32'=>?_)
           ·exfalso;have hz:=(decide_eq_true h32');rw [dL] at hz;simp at hz
           ·refine En (Lk (Lm (Lt (La (Dz ?_)))))
            refine aw.again ?_
            refine En (Ls (La (Lt (Ls (LT (Lk (Lt (Ls (Lb (Ls (Dz ?_)))))))))))
            refine bj (Hg 1 (.elem (.int .u64 ((aA k).toList.getD 10 0))) [.prop (0<=(10:Int)/\(10:Int)<(11:Int)),.prop ((aD.cells (aA k))[Int.toNat (10)*1]?=some (.int .u64 ((aA k).toList.getD 10 0)))] (aB za (aB (by rw [Nat.mul_one];exact aD.at_ _ 10 za) av)) Hz) ?_
            refine Zt (Zs (?_))
            refine bj (Hl 1 0 0 hs20 (Hx 5 (10:Int) (11:Int) lp 1 1 (Hl 6 1 11 hs20 Hz))) ?_
            refine Zt (?_)
            refine Zi ((((aA k).toList.getD 10 0):Int)>0) (λh33'=>?_) (λh33'=>?_)
            ·exfalso;have hz:=(decide_eq_true h33');rw [dL] at hz;simp at hz
            ·refine En (Lk (Lm (Lt (La (Dz ?_)))))
             refine aw.again ?_
             refine En (Ls (La (Lt (Ls (LF (Lx (gv (gw (Lh (Lt (Ls (Dz ?_))))))))))))
             refine aE.aV [0,0,2,6,1,17,63,127,255,1,513,2047,4095] (.rd 0 (.rd 1 (.rd 2 (.rd 3 (.rd 4 (.rd 5 (.rd 6 (.rd 7 (.rd 8 (.rd 9 (.rd 10 (.rd 11 (.ef 12 .done))))))))))))) zk zk ai zk hs20 ?_
             intro w34 hs35 hw36
             refine Zj (Hl 0 0 0 hs35 (Hl 2 2 0 hs35 (Hx 6 (1:Int) (11:Int) lp 1 1 (Hl 7 1 2 hs35 (qU 8 ((k:Nat)+1) (Hx 11 (1:Int) (11:Int) lp 1 1 Hz)))))) ?_
             refine Zv (b:=lp) (off:=2) (v:=.int .u64 ((k:Nat)+1)) (ti:=Tryz.t31) zk hs35 1 (cs':=#[.int .i64 5,.int .u64 0,.int .u64 ((k:Nat)+1),.int .u64 0,.int .u64 0,.int .u64 0,.int .u64 0,.int .u64 0,.int .u64 0,.int .u64 0,.int .u64 0,.int .u64 0,.map (some vr),zL pa 0 5 pc,zL ha 0 5 hc]) ?_
             intro w37 hs38
             refine Lo (Ld (Lt (Ls (Dz ?_))))
             refine aE.aV [0,1,3,7,0,0,0,0,128,463,1023,2047,4095] (.rd 0 (.rd 1 (.rd 2 (.rd 4 (.rd 5 (.rd 6 (.rd 7 (.rd 8 (.ef 3 (.ef 9 (.ef 10 (.rd 11 (.rd 12 .done))))))))))))) zk zk ai zk hs38 ?_
             intro w39 hs40 hw41
             refine Zj (Hl 2 2 13 hs40 (Hl 4 0 0 hs40 (du 5 2 0 121 (an.cells (⟨2,((k:Nat)+1),aA k,bd,tg⟩:an)) hs40 (Hl 6 0 0 hs40 (Hl 8 2 0 hs40 Hz))))) ?_
             refine aF Tryz.call139 (yO bd.kd hkd hs40) ?_
             rintro v54 w55 (⟨rfl,hkchange42,hs43⟩|⟨rfl,hknewView44,hs45⟩|⟨rfl,hkenter46,hs47⟩|⟨rfl,hkprepare48,hs49⟩|⟨rfl,hkcommit50,hs51⟩|⟨rfl,hkcheck52,hs53⟩)
             ·refine⟨bw (n:=[.cell ⟨b6,0,none⟩ (.int .i64 2),.cell ⟨b3,0,none⟩ (zP lp 0),.prop (Array.size (an.cells (⟨2,((k:Nat)+1),aA k,bd,tg⟩:an))=121),.cells ⟨b6,0,none⟩ (an.cells (⟨2,((k:Nat)+1),aA k,bd,tg⟩:an)),.cell ⟨b3,0,none⟩ (zP lp 0)]) zk (aG (hs43.cell 2 rfl zk) (aG (hs43.cell 0 rfl zk) (aB zk (dq (hs43.cells 2 0 rfl zk) (aG (hs43.cell 0 rfl zk) av))))),?_⟩
              have hs56:=(hs43.pl 5).pl 2
              refine aF Tryz.call140 (fz (k+1) q0 q2 q3 q4 pb hs56) ?_
              rintro v58 w59 ⟨rfl,hs57⟩
              refine⟨bw (n:=[.prop (Array.size (an.cells (⟨2,((k:Nat)+1),aA k,bd,tg⟩:an))=121),.cells ⟨b6,0,none⟩ (an.cells (⟨2,((k:Nat)+1),aA k,bd,tg⟩:an)),.cell ⟨b3,0,none⟩ (zP lp 0)]) zk (aB zk (dq (hs57.cells 3 0 rfl zk) (aG (hs57.cell 2 rfl zk) av))),?_⟩
              have hs60:=((((hs57.pl 7).pl 7).pl 7).pl 7).pl 4
              refine aF Tryz.call174 (pE k bd tg cl gr hg hvw za (λw h=>hr _ (h.drop 5)) hs60) ?_
              rintro v69 w70 ⟨ob61,gr62,ca63,cc64,cl65,rfl,hgr66,hcl267,hs68⟩
              refine Lo (aL (Lt (Le (Dz ?_))))
              refine jE (v:=.bool ob61) (v':=.int .i64 0) ?_
              have hs71:=(((((((hs68.pl 9).pl 9).pl 6).pl 6).pl 7).pl 7).pl 7).pl 7
              have hs72:St w0 (LG lp (k+1) (⟨vr,wb,pD,pa,pc,ha,hc,pb,q0,q2,q3,q4,ca63,cc64,cl65,gr62,eb,ec,vm⟩)::ah b3 #[zP lp 0] 106::ah b6 (an.cells (⟨2,((k:Nat)+1),aA k,bd,tg⟩:an)) 43::L) w70:=Bd.close ⟨za,show(cl65).length<=k+1 from by omega⟩ hs71
              have hs73:=((hs72.pl 0).pl 2).pl 2
              have hs74:=hs73.dr 2
              exact⟨ob61,⟨vr,wb,pD,pa,pc,ha,hc,pb,q0,q2,q3,q4,ca63,cc64,cl65,gr62,eb,ec,vm⟩,rfl,hs74⟩
             ·refine⟨bw (n:=[.cell ⟨b6,0,none⟩ (.int .i64 2),.cell ⟨b3,0,none⟩ (zP lp 0),.prop (Array.size (an.cells (⟨2,((k:Nat)+1),aA k,bd,tg⟩:an))=121),.cells ⟨b6,0,none⟩ (an.cells (⟨2,((k:Nat)+1),aA k,bd,tg⟩:an)),.cell ⟨b3,0,none⟩ (zP lp 0)]) zk (aG (hs45.cell 2 rfl zk) (aG (hs45.cell 0 rfl zk) (aB zk (dq (hs45.cells 2 0 rfl zk) (aG (hs45.cell 0 rfl zk) av))))),?_⟩
              have hs75:=(hs45.pl 5).pl 2
              refine aF Tryz.call140 (fz (k+1) q0 q2 q3 q4 pb hs75) ?_
              rintro v77 w78 ⟨rfl,hs76⟩
              refine⟨bw (n:=[.prop (Array.size (an.cells (⟨2,((k:Nat)+1),aA k,bd,tg⟩:an))=121),.cells ⟨b6,0,none⟩ (an.cells (⟨2,((k:Nat)+1),aA k,bd,tg⟩:an)),.cell ⟨b3,0,none⟩ (zP lp 0)]) zk (aB zk (dq (hs76.cells 3 0 rfl zk) (aG (hs76.cell 2 rfl zk) av))),?_⟩
              have hs79:=((hs76.pl 5).pl 5).pl 2
              refine aF (f:=175) (args:=#[zP lp 0,.agg (an.cells (⟨2,((k:Nat)+1),aA k,bd,tg⟩:an)),zP pb 0]) Tryz.call175 (tP k bd tg cl (C6 hmb hknewView44).2 hq5 za (by have:=iO hmay;simp only at this;omega) hvw (λw h=>hr _ (h.drop 7)) hs79) ?_
              rintro v81 w82 ⟨rfl,hs80⟩
              refine Lo (aL (Lt (Le (Dz ?_))))
              refine jE (v:=.bool false) (v':=.int .i64 0) ?_
              have hs83:=(((((((hs80.pl 9).pl 9).pl 9).pl 9).pl 7).pl 7).pl 7).pl 7
              have hs84:St w0 (LG lp (k+1) (⟨vr,wb,pD,pa,pc,ha,hc,pb,q0,q2,q3,q4,ca,cc,cl,gr,eb,ec,vm⟩)::ah b3 #[zP lp 0] 106::ah b6 (an.cells (⟨2,((k:Nat)+1),aA k,bd,tg⟩:an)) 43::L) w82:=Bd.close ⟨za,show(cl).length<=k+1 from by omega⟩ hs83
              have hs85:=((hs84.pl 0).pl 2).pl 2
              have hs86:=hs85.dr 2
              exact⟨false,⟨vr,wb,pD,pa,pc,ha,hc,pb,q0,q2,q3,q4,ca,cc,cl,gr,eb,ec,vm⟩,rfl,hs86⟩
             ·refine⟨bw (n:=[.cell ⟨b6,0,none⟩ (.int .i64 2),.cell ⟨b3,0,none⟩ (zP lp 0),.prop (Array.size (an.cells (⟨2,((k:Nat)+1),aA k,bd,tg⟩:an))=121),.cells ⟨b6,0,none⟩ (an.cells (⟨2,((k:Nat)+1),aA k,bd,tg⟩:an)),.cell ⟨b3,0,none⟩ (zP lp 0)]) zk (aG (hs47.cell 2 rfl zk) (aG (hs47.cell 0 rfl zk) (aB zk (dq (hs47.cells 2 0 rfl zk) (aG (hs47.cell 0 rfl zk) av))))),?_⟩
              have hs87:=(hs47.pl 5).pl 2
              refine aF Tryz.call140 (fz (k+1) q0 q2 q3 q4 pb hs87) ?_
              rintro v89 w90 ⟨rfl,hs88⟩
              refine⟨bw (n:=[.prop (Array.size (an.cells (⟨2,((k:Nat)+1),aA k,bd,tg⟩:an))=121),.cells ⟨b6,0,none⟩ (an.cells (⟨2,((k:Nat)+1),aA k,bd,tg⟩:an)),.cell ⟨b3,0,none⟩ (zP lp 0)]) zk (aB zk (dq (hs88.cells 3 0 rfl zk) (aG (hs88.cell 2 rfl zk) av))),?_⟩
              have hs91:=(hs88.pl 8).pl 1
              refine aF (f:=176) (args:=#[zP lp 0,.agg (an.cells (⟨2,((k:Nat)+1),aA k,bd,tg⟩:an)),zP pb 0]) Tryz.call176 (rQ k bd tg (C7 hmb hkenter46) (λw h=>hr _ (h.drop 8)) hs91) ?_
              rintro v93 w94 ⟨rfl,hs92⟩
              refine Lo (aL (Lt (Le (Dz ?_))))
              refine jE (v:=.bool false) (v':=.int .i64 0) ?_
              have hs95:=(((((((hs92.pl 9).pl 2).pl 9).pl 9).pl 5).pl 9).pl 9).pl 7
              have hs96:St w0 (LG lp (k+1) (⟨vr,wb,pD,pa,pc,ha,hc,pb,q0,q2,q3,q4,ca,cc,cl,gr,eb,ec,vm⟩)::ah b3 #[zP lp 0] 106::ah b6 (an.cells (⟨2,((k:Nat)+1),aA k,bd,tg⟩:an)) 43::L) w94:=Bd.close ⟨za,show(cl).length<=k+1 from by omega⟩ hs95
              have hs97:=((hs96.pl 0).pl 2).pl 2
              have hs98:=hs97.dr 2
              exact⟨false,⟨vr,wb,pD,pa,pc,ha,hc,pb,q0,q2,q3,q4,ca,cc,cl,gr,eb,ec,vm⟩,rfl,hs98⟩
             ·refine⟨bw (n:=[.cell ⟨b6,0,none⟩ (.int .i64 2),.cell ⟨b3,0,none⟩ (zP lp 0),.prop (Array.size (an.cells (⟨2,((k:Nat)+1),aA k,bd,tg⟩:an))=121),.cells ⟨b6,0,none⟩ (an.cells (⟨2,((k:Nat)+1),aA k,bd,tg⟩:an)),.cell ⟨b3,0,none⟩ (zP lp 0)]) zk (aG (hs49.cell 2 rfl zk) (aG (hs49.cell 0 rfl zk) (aB zk (dq (hs49.cells 2 0 rfl zk) (aG (hs49.cell 0 rfl zk) av))))),?_⟩
              have hs99:=(hs49.pl 5).pl 2
              refine aF Tryz.call140 (fz (k+1) q0 q2 q3 q4 pb hs99) ?_
              rintro v101 w102 ⟨rfl,hs100⟩
              refine⟨bw (n:=[.prop (Array.size (an.cells (⟨2,((k:Nat)+1),aA k,bd,tg⟩:an))=121),.cells ⟨b6,0,none⟩ (an.cells (⟨2,((k:Nat)+1),aA k,bd,tg⟩:an)),.cell ⟨b3,0,none⟩ (zP lp 0)]) zk (aB zk (dq (hs100.cells 3 0 rfl zk) (aG (hs100.cell 2 rfl zk) av))),?_⟩
              have hs103:=(hs100.pl 8).pl 1
              refine aF (f:=177) (args:=#[zP lp 0,.agg (an.cells (⟨2,((k:Nat)+1),aA k,bd,tg⟩:an)),zP pb 0]) Tryz.call177 (oR k bd tg hvw (λw h=>hr _ (h.drop 8)) hs103) ?_
              rintro v105 w106 ⟨rfl,hs104⟩
              refine Lo (aL (Lt (Le (Dz ?_))))
              refine jE (v:=.bool false) (v':=.int .i64 0) ?_
              have hs107:=(((((((hs104.pl 9).pl 2).pl 9).pl 9).pl 5).pl 9).pl 9).pl 7
              have hs108:St w0 (LG lp (k+1) (⟨vr,wb,pD,pa,pc,ha,hc,pb,q0,q2,q3,q4,ca,cc,cl,gr,eb,ec,vm⟩)::ah b3 #[zP lp 0] 106::ah b6 (an.cells (⟨2,((k:Nat)+1),aA k,bd,tg⟩:an)) 43::L) w106:=Bd.close ⟨za,show(cl).length<=k+1 from by omega⟩ hs107
              have hs109:=((hs108.pl 0).pl 2).pl 2
              have hs110:=hs109.dr 2
              exact⟨false,⟨vr,wb,pD,pa,pc,ha,hc,pb,q0,q2,q3,q4,ca,cc,cl,gr,eb,ec,vm⟩,rfl,hs110⟩
             ·refine⟨bw (n:=[.cell ⟨b6,0,none⟩ (.int .i64 2),.cell ⟨b3,0,none⟩ (zP lp 0),.prop (Array.size (an.cells (⟨2,((k:Nat)+1),aA k,bd,tg⟩:an))=121),.cells ⟨b6,0,none⟩ (an.cells (⟨2,((k:Nat)+1),aA k,bd,tg⟩:an)),.cell ⟨b3,0,none⟩ (zP lp 0)]) zk (aG (hs51.cell 2 rfl zk) (aG (hs51.cell 0 rfl zk) (aB zk (dq (hs51.cells 2 0 rfl zk) (aG (hs51.cell 0 rfl zk) av))))),?_⟩
              have hs111:=(hs51.pl 5).pl 2
              refine aF Tryz.call140 (fz (k+1) q0 q2 q3 q4 pb hs111) ?_
              rintro v113 w114 ⟨rfl,hs112⟩
              refine⟨bw (n:=[.prop (Array.size (an.cells (⟨2,((k:Nat)+1),aA k,bd,tg⟩:an))=121),.cells ⟨b6,0,none⟩ (an.cells (⟨2,((k:Nat)+1),aA k,bd,tg⟩:an)),.cell ⟨b3,0,none⟩ (zP lp 0)]) zk (aB zk (dq (hs112.cells 3 0 rfl zk) (aG (hs112.cell 2 rfl zk) av))),?_⟩
              have hs115:=((((hs112.pl 7).pl 7).pl 9).pl 9).pl 4
              refine aF Tryz.call178 (pF k bd tg gr hvw (C8 hmb hkcommit50) (λw h=>hr _ (h.drop 5)) hs115) ?_
              rintro v117 w118 ⟨rfl,hs116⟩
              refine Lo (aL (Lt (Le (Dz ?_))))
              refine jE (v:=.bool false) (v':=.int .i64 0) ?_
              have hs119:=(((((((hs116.pl 2).pl 2).pl 4).pl 4).pl 5).pl 9).pl 9).pl 7
              have hs120:St w0 (LG lp (k+1) (⟨vr,wb,pD,pa,pc,ha,hc,pb,q0,q2,q3,q4,ca,cc,cl,gr,eb,ec,vm⟩)::ah b3 #[zP lp 0] 106::ah b6 (an.cells (⟨2,((k:Nat)+1),aA k,bd,tg⟩:an)) 43::L) w118:=Bd.close ⟨za,show(cl).length<=k+1 from by omega⟩ hs119
              have hs121:=((hs120.pl 0).pl 2).pl 2
              have hs122:=hs121.dr 2
              exact⟨false,⟨vr,wb,pD,pa,pc,ha,hc,pb,q0,q2,q3,q4,ca,cc,cl,gr,eb,ec,vm⟩,rfl,hs122⟩
             ·refine⟨bw (n:=[.cell ⟨b6,0,none⟩ (.int .i64 2),.cell ⟨b3,0,none⟩ (zP lp 0),.prop (Array.size (an.cells (⟨2,((k:Nat)+1),aA k,bd,tg⟩:an))=121),.cells ⟨b6,0,none⟩ (an.cells (⟨2,((k:Nat)+1),aA k,bd,tg⟩:an)),.cell ⟨b3,0,none⟩ (zP lp 0)]) zk (aG (hs53.cell 2 rfl zk) (aG (hs53.cell 0 rfl zk) (aB zk (dq (hs53.cells 2 0 rfl zk) (aG (hs53.cell 0 rfl zk) av))))),?_⟩
              have hs123:=(hs53.pl 5).pl 2
              refine aF Tryz.call140 (fz (k+1) q0 q2 q3 q4 pb hs123) ?_
              rintro v125 w126 ⟨rfl,hs124⟩
              refine⟨bw (n:=[.prop (Array.size (an.cells (⟨2,((k:Nat)+1),aA k,bd,tg⟩:an))=121),.cells ⟨b6,0,none⟩ (an.cells (⟨2,((k:Nat)+1),aA k,bd,tg⟩:an)),.cell ⟨b3,0,none⟩ (zP lp 0)]) zk (aB zk (dq (hs124.cells 3 0 rfl zk) (aG (hs124.cell 2 rfl zk) av))),?_⟩
              refine aF (f:=179) (args:=#[zP lp 0,.agg (an.cells (⟨2,((k:Nat)+1),aA k,bd,tg⟩:an)),zP pb 0]) Tryz.call179 (rO k bd tg (λw h=>hr _ (h.drop 10)) hs124) ?_
              rintro v128 w129 ⟨rfl,hs127⟩
              refine Lo (aL (Lt (Le (Dz ?_))))
              refine jE (v:=.bool true) (v':=.int .i64 0) ?_
              have hs130:=(((((((hs127.pl 9).pl 9).pl 9).pl 9).pl 5).pl 9).pl 9).pl 7
              have hs131:St w0 (LG lp (k+1) (⟨vr,wb,pD,pa,pc,ha,hc,pb,q0,q2,q3,q4,ca,cc,cl,gr,eb,ec,vm⟩)::ah b3 #[zP lp 0] 106::ah b6 (an.cells (⟨2,((k:Nat)+1),aA k,bd,tg⟩:an)) 43::L) w129:=Bd.close ⟨za,show(cl).length<=k+1 from by omega⟩ hs130
              have hs132:=((hs131.pl 0).pl 2).pl 2
              have hs133:=hs132.dr 2
              exact⟨true,⟨vr,wb,pD,pa,pc,ha,hc,pb,q0,q2,q3,q4,ca,cc,cl,gr,eb,ec,vm⟩,rfl,hs133⟩
end Go.Proofs.YtdaohdehpmgfdaaGreatDoor
