/-
  Several texts in one: WdH, WdI, RqD, RqE, WdJ, WdK, WdL, WdM.
-/
import Derived.Test.YthfpmlpoiocfdaaGreatDoorGbC
namespace Go.Proofs.YthfpmlpoiocfdaaGreatDoor
open Go.RowKit Go.Sx
set_option linter.unusedVariables false
set_option linter.unusedSimpArgs false
set_option linter.unnecessarySimpa false
set_option maxRecDepth 100000
variable {w0 w : World} {L : List bA}
section
variable {P : Program} {R0 : Exit -> Act -> World -> Prop} {N : Fr} {K : List fQ} {S : Env} {w w0 : World} {l : List Oper} {M : List Nat} {A : dN} {rest : PT} {L : List bA}
theorem aL.KC {α:Type}{i:Nat}{o:Oper}(ho:l[i]?=some o) (hw:cZ l.toArray S o=some true){t e:TypeId}{n:Nat}(ha:A3 S o=some (t,.int .i64 (n:Int),.int .i64 (n:Int))) (he:P.underlying t=some (.slice e)){ti:TypeInfo}(hi:P.info? e=some ti){z:Value}(hz:ti.zero=some z){f:α -> Array Value}(d:α) (hzc:z.cells=f d){size:Nat}(hsz:ti.size=size) (hf:fD f size) (hp:0<size) (hn:n <= 100000) (hby:ti.bytes <= 100000) (hs:St w0 L w)
 (h:∀ b w' (ys:List α),ys=List.replicate n d -> ys.length=n -> St w0 (Sl (sm b) n e size f ys::L) w' -> bH w' (opens M A i) /\ aL P l M R0 K N A rest (S.dO o.dst (zL b 0 ys.length n)) w'):aL P l M R0 K N A (.ef i rest) S w:=by
 have hbn:ti.bytes*n <= 281474976710656:=by
  have:=Nat.mul_le_mul hby hn
  omega
 have hr:=run_make (P:=P) w t e ti z he hi hz .i64 .i64 (n:Int) (n:Int) za (Int.le_refl _) (by rw [<- Int.natCast_mul];omega) za
 rw [Int.toNat_natCast,hzc,hsz,yS hf.size d n hp] at hr
 have a0:=St.iw (l:=List.replicate n d) (f:=f) (hs.gM (aA f (List.replicate n d)) e) zw hf.size (by rw [List.length_replicate,maxLen];omega) rfl
 rw [List.length_replicate] at a0
 have u:=h _ _ _ rfl (List.length_replicate ..) a0
 rw [List.length_replicate] at u
 obtain⟨k1,k2⟩:=u
 refine aL.run ho hw _ _ (λa hfit=>.inl ?_) k1 k2
 unfold A3 at ha
 split at ha
 ·rename_i t' x y hop
  split at ha
  ·rename_i a1 b1 h1 u
   simp only [Option.some.injEq,Prod.mk.injEq] at ha
   obtain⟨rfl,rfl,rfl⟩:=ha
   have e1:=hfit.op h1
   have e2:=hfit.op u
   generalize a.eval=ρ at e1 e2 ⊢
   simp only [execOp,hop,e1,e2,Sem.run_bind,hr,Result.andThen_ok]
   rfl
  ·cases ha
 ·cases ha
end
theorem Inv.new {n:Int}(h3:3 <= n) (h11:n <= 11){wl:List bD}{cl:List bT}{k:Nat}(hk:(k:Int)=n) (hw:wl.length=k) (hwx:∀ q∈wl,q.x.ll=[⟨0,0⟩]) (hc:cl=List.replicate k cE):Inv 0 n [aN] wl cl:=by
 have h0:Has [aN] 0 0:=⟨aN,List.mem_singleton.2 rfl,rfl,Int.le_refl 0,Int.le_refl 0⟩
 refine⟨h3,h11,za,by rw [hc,List.length_replicate];exact hk,Nat.le_refl 1,h0,λq hq=>?_,λv hv=>?_,λv hv=>?_,?_,λv hv=>?_,λc u=>?_⟩
 ·rw [hwx q hq]
  exact⟨Nat.le_refl 1,λy hy=>by obtain rfl:=List.mem_singleton.1 hy;exact h0⟩
 ·obtain rfl:=List.mem_singleton.1 hv;exact .inl rfl
 ·obtain rfl:=List.mem_singleton.1 hv;exact⟨Int.le_refl 0,zb⟩
 ·exact List.nodup_cons.2 ⟨by simp,List.nodup_nil⟩
 ·obtain rfl:=List.mem_singleton.1 hv;exact Nat.le_refl 0
 ·rw [hc] at u
  obtain rfl:=List.eq_of_mem_replicate u
  exact⟨Nat.le_refl 0,λy hy=>absurd hy List.not_mem_nil⟩
theorem aE.rep {α:Type}{F:α -> bA}{d:α}(hF:∀ {w0 w:World}{L:List bA},St w0 L w -> St w0 (F d::L) w){w0 w:World}{L:List bA}(hs:St w0 L w):∀ n,St w0 (aE F (List.replicate n d)::L) w
 | 0=>aE.nil hs
 | n+1=>by
  rw [List.replicate_succ']
  exact aE.add (hF (aE.rep hF hs n))
theorem cF.zero (hs:St w0 L w):St w0 (cF cE::L) w:=Bd.close trivial (hs.eB _ _ _)
theorem cM.zero (hs:St w0 L w):St w0 (cM aN::L) w:=Bd.close trivial ((hs.eB _ _ _).eB _ _ _)
theorem LS.mono {lp t:Nat}{x:aQ}(hs:St w0 (LS lp t x::L) w):St w0 (LS lp (t+1) x::L) w:=Bd.close (Bd.open hs).1.mono (Bd.open hs).2
theorem DD (k:Nat) (hk:3 <= k /\ k <= 11) (hodd:k % 2=1) (hs:St w0 L w):Cs Tryz.prog 54 #[.int .i64 (k:Nat)] w λrv w'=>∃ (lp:Nat) (y2:aQ),rv=.tuple #[zP lp 0,.int .i64 0] /\ y2.n=(k:Nat) /\ St w0 (LS lp 0 y2::L) w':=by
 refine dF Tryz.func54 Tryz.ntmps54 (En (Lq (Ls (Ls (Dz (aX.join (T:=Unit) (E:=λ_=>[(16,.bool (((decide ((k:Int)<3)) || (decide ((k:Int)>11))) || ((((k:Nat) % 2):Int) == 0))),(3,.int .i64 0),(2,.pointer none),(0,.int .i64 (k:Nat))]) (F:=λ_ w=>St w0 L w) ?_ ?_))))))
 ·refine Zg [] (Zr 0 3 [] (iy 8 (decide ((k:Int)<3)) (λh1=>?_) (λh1=>?_)))
  ·have b5:=of_decide_eq_true h1
   exfalso;omega
  ·have b5:=of_decide_eq_false h1
   refine Zr 3 4 [] (iy 12 (decide ((k:Int)>11)) (λh2=>?_) (λh2=>?_))
   ·have b7:=of_decide_eq_true h2
    exfalso;omega
   ·exact kV (Hg 8 (.div ((k:Nat) % 2)) [.prop (IntKind.i64=IntKind.i64 /\ (2:Int)≠0 /\ Int.tmod (k:Nat) 2=(k:Nat) % 2)] (aJ ⟨rfl,zb,Int.tmod_eq_emod_of_nonneg (by first|omega|exact Int.natCast_nonneg _)⟩ aR) Hz) (lM [16,3,2,0] () ((((k:Nat) % 2):Int) == 0) (by first|rfl|simp [Hb,h1,h2]) hs)
 intro _ w3 b9
 refine Zt (eZ (t:=((decide ((k:Int)<3)) || (decide ((k:Int)>11))) || ((((k:Nat) % 2):Int) == 0)) (λh5=>?_) (λh5=>?_))
 ·exfalso;simp only [Bool.or_eq_true,decide_eq_true_eq,beq_iff_eq] at h5;omega
 ·have b0:=(Bool.or_eq_false_iff.1 h5).1
  have h5aa:=(Bool.or_eq_false_iff.1 b0).1
  have h5ab:(decide ((k:Int)>11))=false:=(Bool.or_eq_false_iff.1 b0).2
  have c0:((((k:Nat) % 2):Int) == 0)=false:=(Bool.or_eq_false_iff.1 h5).2
  refine En (Lk (Lt (Ls (Lg [2,4,6] (Lw (aL.bU rfl zk (t:=210) (e:=209) (n:=1) (ps:=[(0,.agg (aT.cells aN))]) zk zk (ti:=Tryz.t209) (z:=.agg (aT.cells aN)) zk zk zb zb (cs:=aT.cells aN) zk b9 λu w7 c1 c2=>?_))))))
  have c3:St w0 (Sl (sm u) 1 209 4 aT.cells ([(aN:aT)])::L) w7:=St.iw (l:=[(aN:aT)]) (f:=aT.cells) c1 c2 jJ.size zf zk
  refine Lo (Lw (aL.KC rfl zk (t:=211) (e:=287) (n:=k) zk zk (ti:=Tryz.t287) zk (z:=.slice none 0 0) zk (f:=bT.cells) cE zk (size:=1) zk Dy zb za (Nat.le_of_ble_eq_true zk) c3 λa0 f3 cl hcl hcln c4=>Lo (Lw (mT (aQ.cells (⟨(k:Nat),dB,sm u,1,[aN],none,0,[],sm a0,k,cl⟩:aQ)) c4 λa3 b1 c5=>Lz (Ls (Lq (Lb (Dz ?_))))))))
  have c6:=St.eB c5 215 1 bD.ptr
  have c7:St w0 (aE cA ([]:List bD)::Sl none 0 215 1 bD.ptr ([]:List bD)::aB a3 (aQ.cells (⟨(k:Nat),dB,sm u,1,[aN],none,0,[],sm a0,k,cl⟩:aQ)) 214::Sl (sm a0) k 287 1 bT.cells cl::Sl (sm u) 1 209 4 aT.cells ([(aN:aT)])::L) b1:=aE.nil c6
  have c9:=((((c7.pl 4).pl 4).pl 2).pl 3).pl 4
  have d1:St w0 (aB a3 (aQ.cells (⟨(k:Nat),dB,sm u,1,[aN],none,0,([]:List bD),sm a0,k,cl⟩:aQ)) 214::Sl none 0 215 1 bD.ptr ([]:List bD)::aE cA ([]:List bD)::Sl (sm a0) k 287 1 bT.cells cl::Sl (sm u) 1 209 4 aT.cells ([(aN:aT)])::L) b1:=c9
  refine aX.loop (T:=Nat×(List bD)×(Option Addr)×Nat) (λgg=>[(0,.int .i64 (k:Nat)),(2,.pointer none),(3,.int .i64 0),(4,zP a3 0),(5,.int .i64 (gg.1:Nat))]) (λgg w=>(gg.1 <= k /\ gg.2.1.length=gg.1 /\ ∀ q∈gg.2.1,q.x.ll=[⟨0,0⟩]) /\ St w0 (aB a3 (aQ.cells (⟨(k:Nat),dB,sm u,1,[aN],gg.2.2.1,gg.2.2.2,gg.2.1,sm a0,k,cl⟩:aQ)) 214::Sl gg.2.2.1 gg.2.2.2 215 1 bD.ptr gg.2.1::aE cA gg.2.1::Sl (sm a0) k 287 1 bT.cells cl::Sl (sm u) 1 209 4 aT.cells ([(aN:aT)])::L) w) (λgg=>k-gg.1) (0,[],none,0) [0,2,3,4,5] zk ⟨⟨Nat.zero_le _,rfl,λq hq=>absurd hq List.not_mem_nil⟩,d1⟩ ?_
  rintro⟨i,wl,wa,wc⟩ a6 ⟨hp,a7⟩
  dsimp only at hp a7
  refine En (Ls (Lq (Dz (Zi ((i:Int)<(k:Nat)) (λd2=>?_) (λd2=>?_)))))
  ·refine Zk (Zt (Zs (Zb (ZD (gE [0,1,2,3,4] (.ef 5 (.ef 6 (.ef 7 (gE [8,9] (.ef 10 .done)))))) a7 λf4 b2 f5=>Zj (Hl 4 0 13 b2 Hz) (Zc (Dx b2) ?_)))))
   rintro f6 f7 ⟨a1,a2,rfl,d3,b3⟩
   refine⟨Mv b3 1 rfl [13],(aL.bU rfl zk (t:=212) (e:=215) (n:=1) (ps:=[(0,zP a1 0)]) zk zk (ti:=Tryz.t215) (z:=.pointer none) zk zk zb zb (cs:=#[zP a1 0]) zk b3 λa8 d4 d5 d6=>?_)⟩
   have b4:St w0 (Sl (sm a8) 1 215 1 bD.ptr ([((⟨a1,a2⟩:bD):bD)])::PS a1 a2::aB a3 (aQ.cells (⟨(k:Nat),dB,sm u,1,[aN],wa,wc,wl,sm a0,k,cl⟩:aQ)) 214::Sl wa wc 215 1 bD.ptr wl::aE cA wl::Sl (sm a0) k 287 1 bT.cells cl::Sl (sm u) 1 209 4 aT.cells ([(aN:aT)])::L) d4:=St.iw (l:=[((⟨a1,a2⟩:bD):bD)]) (f:=bD.ptr) d5 d6 F4.size zf zk
   refine⟨Mv b4 2 rfl [13],(sD O1 F4 bM (b4.pl 3) zG λa4 a5 f8 d8=>Lo (Lw (Zu 3 13 (aQ.cells (⟨(k:Nat),dB,sm u,1,[aN],a4,a5,(wl++([((⟨a1,a2⟩:bD):bD)])),sm a0,k,cl⟩:aQ)) d8 λa9 d9=>Lo (Ld (Lm (Lt (Dz (dE (eT 1 ((i:Nat)+1) Hz) ?_))))))))⟩
   have e0:=(d9.pl 4).pl 3
   have e1:St w0 (cA (⟨a1,a2⟩:bD)::aE cA wl::Sl a4 a5 215 1 bD.ptr (wl++([((⟨a1,a2⟩:bD):bD)]))::Sl (sm a8) 1 215 1 bD.ptr ([((⟨a1,a2⟩:bD):bD)])::aB a3 (aQ.cells (⟨(k:Nat),dB,sm u,1,[aN],a4,a5,(wl++([((⟨a1,a2⟩:bD):bD)])),sm a0,k,cl⟩:aQ)) 214::Sl (sm a0) k 287 1 bT.cells cl::Sl (sm u) 1 209 4 aT.cells ([(aN:aT)])::L) a9:=e0
   have e2:St w0 (aE cA (wl++[(⟨a1,a2⟩:bD)])::Sl a4 a5 215 1 bD.ptr (wl++([((⟨a1,a2⟩:bD):bD)]))::Sl (sm a8) 1 215 1 bD.ptr ([((⟨a1,a2⟩:bD):bD)])::aB a3 (aQ.cells (⟨(k:Nat),dB,sm u,1,[aN],a4,a5,(wl++([((⟨a1,a2⟩:bD):bD)])),sm a0,k,cl⟩:aQ)) 214::Sl (sm a0) k 287 1 bT.cells cl::Sl (sm u) 1 209 4 aT.cells ([(aN:aT)])::L) a9:=aE.add e1
   have e3:=(((((e2.pl 5).pl 5).pl 2).pl 3).pl 5).pl 5
   have e4:=e3.dr 1
   have e5:St w0 (aB a3 (aQ.cells (⟨(k:Nat),dB,sm u,1,[aN],a4,a5,(wl++[(⟨a1,a2⟩:bD)]),sm a0,k,cl⟩:aQ)) 214::Sl a4 a5 215 1 bD.ptr (wl++[(⟨a1,a2⟩:bD)])::aE cA (wl++[(⟨a1,a2⟩:bD)])::Sl (sm a0) k 287 1 bT.cells cl::Sl (sm u) 1 209 4 aT.cells ([(aN:aT)])::L) a9:=e4
   exact aS.back (i+1,(wl++[(⟨a1,a2⟩:bD)]),a4,a5) [0,2,3,4,5] zk (by show k-(i+1)<k-i;omega) ⟨⟨za,by rw [List.length_append,hp.2.1];rfl,λq hq=>(List.mem_append.1 hq).elim (hp.2.2 q) (λh=>by obtain rfl:=List.mem_singleton.1 h;exact d3)⟩,e5⟩
  ·refine En (Lx (mM (mN (Lh (Lt (Lq (Le (Dz (Jq (v:=zP a3 0) (v':=.int .i64 0) ?_)))))))))
   have e6:St w0 (aE cF (List.replicate k cE)::aB a3 (aQ.cells (⟨(k:Nat),dB,sm u,1,[aN],wa,wc,wl,sm a0,k,cl⟩:aQ)) 214::Sl wa wc 215 1 bD.ptr wl::aE cA wl::Sl (sm a0) k 287 1 bT.cells cl::Sl (sm u) 1 209 4 aT.cells ([(aN:aT)])::L) a6:=aE.rep cF.zero a7 k
   have e7:St w0 (aE cF cl::aB a3 (aQ.cells (⟨(k:Nat),dB,sm u,1,[aN],wa,wc,wl,sm a0,k,cl⟩:aQ)) 214::Sl wa wc 215 1 bD.ptr wl::aE cA wl::Sl (sm a0) k 287 1 bT.cells cl::Sl (sm u) 1 209 4 aT.cells ([(aN:aT)])::L) a6:=(by have h9:=e6;rw [<- hcl] at h9;exact h9)
   have e8:St w0 (aE cM ([]++[aN])::aE cF cl::aB a3 (aQ.cells (⟨(k:Nat),dB,sm u,1,[aN],wa,wc,wl,sm a0,k,cl⟩:aQ)) 214::Sl wa wc 215 1 bD.ptr wl::aE cA wl::Sl (sm a0) k 287 1 bT.cells cl::Sl (sm u) 1 209 4 aT.cells ([(aN:aT)])::L) a6:=aE.add (cM.zero (aE.nil e7))
   have e9:St w0 (aE cM ([aN])::aE cF cl::aB a3 (aQ.cells (⟨(k:Nat),dB,sm u,1,[aN],wa,wc,wl,sm a0,k,cl⟩:aQ)) 214::Sl wa wc 215 1 bD.ptr wl::aE cA wl::Sl (sm a0) k 287 1 bT.cells cl::Sl (sm u) 1 209 4 aT.cells ([(aN:aT)])::L) a6:=e8
   have f0:=((((((e9.pl 1).pl 5).pl 5).pl 5).pl 4).pl 6).pl 6
   have f1:St w0 (LS a3 0 (⟨(k:Nat),dB,sm u,1,[aN],wa,wc,wl,sm a0,k,cl⟩:aQ)::L) a6:=Bd.close (Inv.new (n:=(k:Int)) (wl:=wl) (cl:=cl) za za rfl za hp.2.2 hcl) f0
   exact⟨a3,(⟨(k:Nat),dB,sm u,1,[aN],wa,wc,wl,sm a0,k,cl⟩:aQ),rfl,rfl,f1⟩
section
variable {w0 w : World} {L : List bA}
structure fF where
 wh:Int
 ot:Int
 me:Bool
 ra:Bool
 kd:Int
 vw:Int
 k:Int
 ci:Int
 tm:Int
 ky:Int
 qa:Option Addr
 qc:Nat
 ql:List Int
 fa:Bool
def fF.cells (x:fF):Array Value:=#[.int .u8 x.wh,.int .u8 x.ot,.bool x.me,.bool x.ra,.int .u8 x.kd,.int .u8 x.vw,.int .u8 x.k,.int .u8 x.ci,.int .u8 x.tm,.int .u8 x.ky,.slice x.qa x.ql.length x.qc,.bool x.fa]
abbrev wH:fF:=⟨0,0,false,false,0,0,0,0,0,0,none,0,[],false⟩
theorem Qo:fD fF.cells 12:=⟨λ_=>rfl,λ_=>rfl⟩
theorem mv:fD aP.cells 11:=⟨λ_=>rfl,λ_=>rfl⟩
structure DE (m:aK):Prop where
 ok:lP m
 may:gv m=true
 tg:m.tg=mE m.og m.nr (pN m)
def lO (m:aK):bA:=Bd True [Sl m.bd.qa m.bd.qc 174 2 bu.cells m.bd.ql]
structure EY where
 ka:Option Addr
 kc:Nat
 kl:List aP
 aa:Option Addr
 ac:Nat
 al:List aK
 lp:Nat
 x:aQ
structure My (t:Nat) (g:EY):Prop where
 hk:(g.kl.length:Int)=g.x.n
 hv:∀ v∈g.kl,∀ z∈v.toList,0 <= z /\ z <= t
 hg:∀ m∈g.al,DE m
 hl:g.al.length <= t
def WD (wp t:Nat) (g:EY):bA:=Bd (My t g) [aB wp #[.slice g.ka g.kl.length g.kc,.slice g.aa g.al.length g.ac,zP g.lp 0] 35,Sl g.ka g.kc 50 11 aP.cells g.kl,Sl g.aa g.ac 55 121 aK.cells g.al,aE lO g.al,LS g.lp t g.x]
theorem nd {w:World}{b off:Nat}{l:List aP}(h:aC w (some ⟨b,off,none⟩) l.length 11 (λk=>aP.cells (l.getD k dB))){k i:Nat}(hk:k<l.length) (hi:i<11):w.cell? ⟨b,off+(k*11)+(i*1),none⟩=some (.int .u64 ((l.getD k dB).toList.getD i 0)):=by
 rw [Nat.mul_one]
 exact(h.at hk hi).trans (aP.at_ _ i hi)
theorem DF n (hn:0 <= n /\ n <= 255) (hs:St w0 L w):Cs Tryz.prog 19 #[.int .u8 n] w λrv w'=>∃ kk2,rv=.int .i64 (kk2:Nat) /\ (3 <= kk2 /\ kk2 <= 11) /\ (kk2 % 2=1) /\ St w0 L w':=by
 exact dF Tryz.func19 Tryz.ntmps19 (En (Lq (Ls (Dz (dE (Hg 1 (.div (n % 5)) [.prop (IntKind.u8=IntKind.u8 /\ (5:Int)≠0 /\ Int.tmod n 5=n % 5)] (aJ ⟨rfl,zb,Int.tmod_eq_emod_of_nonneg (by first|omega|exact Int.natCast_nonneg _)⟩ aR) (eT 2 (n % 5) (eT 3 (2*(n % 5)) (eT 4 (3+(2*(n % 5))) Hz)))) (Zt (Ze (bY (v:=.int .i64 (3+(2*(n % 5)))) ⟨Int.toNat (3+(2*(n % 5))),congrArg (Value.int .i64) za,za,za,hs⟩))))))))
theorem yr (k:Nat) (hk:3 <= k /\ k <= 11) (hodd:k % 2=1) (hs:St w0 L w):Cs Tryz.prog 18 #[.int .i64 (k:Nat)] w λrv w'=>∃ (wp:Nat) (g2:EY),rv=zP wp 0 /\ g2.kl.length=k /\ g2.al=[] /\ St w0 (WD wp 0 g2::L) w':=by
 refine dF Tryz.func18 Tryz.ntmps18 (En (Lq (Ls (Lg [1] (Lw (Zc (DD k za za hs) ?_))))))
 rintro v5 w6 ⟨u,y2,rfl,a2,a3⟩
 refine Lz (Ls (Lg [1,4] (Lw (aL.KC rfl zk (t:=31) (e:=50) (n:=k) zk zk (ti:=Tryz.t50) zk (z:=.agg (aP.cells dB)) zk (f:=aP.cells) dB zk (size:=11) zk mv zb za (Nat.le_of_ble_eq_true zk) a3 λb7 w8 kl hkl hkln a4=>Lo (Lw (mT #[zL b7 0 kl.length k,.slice none 0 0,zP u 0] a4 λa0 a1 a5=>Lz (Le (Dz (bY (v:=zP a0 0) ?_)))))))))
 have a6:=St.eB a5 55 121 aK.cells
 have a7:St w0 (aE lO ([]:List aK)::Sl none 0 55 121 aK.cells ([]:List aK)::aB a0 #[zL b7 0 kl.length k,.slice none 0 0,zP u 0] 35::Sl (sm b7) k 50 11 aP.cells kl::LS u 0 y2::L) a1:=aE.nil a6
 have a8:=((((a7.pl 4).pl 1).pl 2).pl 4).pl 4
 have a9:St w0 (WD a0 0 (⟨some ⟨b7,0,none⟩,k,kl,none,0,[],u,y2⟩:EY)::L) a1:=Bd.close ⟨by rw [a2];show(kl.length:Int)=_;omega,λv hv z hz=>by rw [hkl] at hv;rw [List.eq_of_mem_replicate hv] at hz;have:=List.eq_of_mem_replicate (show z∈List.replicate 11 (0:Int) from hz);omega,λm hm=>absurd hm List.not_mem_nil,Nat.zero_le _⟩ a8
 exact⟨a0,(⟨some ⟨b7,0,none⟩,k,kl,none,0,[],u,y2⟩:EY),rfl,hkln,rfl,a9⟩
theorem DG {al:Option Addr}{c:Nat}(l:List fF) (hr:Rw w0 L fF.cells 12 wH al l) (hs:St w0 L w):Cs Tryz.prog 4 #[.slice al l.length c] w λrv w'=>∃ ob2,rv=.bool ob2 /\ (ob2=true -> l.length <= 100 /\ ∀ j,j<l.length -> (l.getD j wH).ql.length <= 20) /\ St w0 L w':=by
 refine dF Tryz.func4 Tryz.ntmps4 (En (Lq (Ls (Lq (Dz (Zi ((l.length:Int)>100) (λa1=>?_) (λa1=>?_)))))))
 ·exact En (Lq (Le (Ly (Dz (bY (v:=.bool false) ⟨false,rfl,(λh=>by cases h),hs⟩)))))
 ·refine En (Lk (Lt (Ls (Lq (Lb (Dz (aX.loop (T:=Nat×(Option Addr)) (λgg=>[(0,.slice gg.2 l.length c),(3,.int .i64 (gg.1:Nat))]) (λgg w=>(gg.1 <= l.length /\ (∀ j,j<gg.1 -> (l.getD j wH).ql.length <= 20) /\ ∀ w,St w0 L w -> aC w gg.2 l.length 12 (λq=>fF.cells (l.getD q wH))) /\ St w0 L w) (λgg=>l.length-gg.1) (0,al) [0,3] zk ⟨⟨Nat.zero_le _,λj hj=>absurd hj (Nat.not_lt_zero _),hr⟩,hs⟩ ?_)))))))
  rintro⟨i,aq⟩ w2 ⟨hp,u⟩
  dsimp only at hp u
  have hw:=hp.2.2
  refine En (Ls (Lq (Dz (Zi ((i:Int)<(l.length:Nat)) (λa2=>?_) (λa2=>?_)))))
  ·have hk:i<l.length:=za
   obtain⟨z,a0,rfl⟩:=aC.isSome (hw _ (u.drop 0)) za
   refine Zk (Zt (Zs (Zb (Zs (dE (Hx 2 (i:Int) (l.length:Int) z a0 12 (Hg 4 (.gen [.slice ((l.getD i wH).qa) ((l.getD i wH).ql.length) ((l.getD i wH).qc)]) [.cell ⟨z,a0+(i*12)+10,none⟩ (.slice ((l.getD i wH).qa) ((l.getD i wH).ql.length) ((l.getD i wH).qc))] (bE (aC.cV (hw _ (u.drop 0)) (k:=i) zo (j:=10) zb zk) aR) Hz)) (Zt (Zi (((l.getD i wH).ql.length:Int)>20) (λa3=>?_) (λa3=>?_))))))))
   ·exact En (Lq (Le (Ll (Ly (E5 (Ll (Ly (Dz (bY (v:=.bool false) ⟨false,rfl,(λh=>by cases h),u⟩)))))))))
   ·exact Zk (Zm (Zt (dE (eT 1 ((i:Nat)+1) Hz) (aS.back (i+1,some ⟨z,a0,none⟩) [0,3] zk (by show l.length-(i+1)<l.length-i;omega) ⟨⟨za,λj hj=>(Nat.lt_or_ge j i).elim (hp.2.1 j) (λh=>by obtain rfl:j=i:=za;omega),hw⟩,u⟩))))
  ·exact En (Lx (mM (mN (Lh (Lt (Lq (Le (Dz (bY (v:=.bool true) ⟨true,rfl,(λ_=>⟨za,λj hj=>hp.2.1 j za⟩),u⟩)))))))))
structure Gb (a:fF):Prop where
 wh:0 <= a.wh /\ a.wh <= 255
 ot:0 <= a.ot /\ a.ot <= 255
 kd:0 <= a.kd /\ a.kd <= 255
 vw:0 <= a.vw /\ a.vw <= 255
 k:0 <= a.k /\ a.k <= 255
 ci:0 <= a.ci /\ a.ci <= 255
 tm:0 <= a.tm /\ a.tm <= 255
 ky:0 <= a.ky /\ a.ky <= 255
 q:∀ z∈a.ql,0 <= z /\ z <= 255
theorem DH (xa:fF) (ha:Gb xa) (hs:St w0 L w):Cs Tryz.prog 104 #[.agg (fF.cells xa)] w λrv w'=>∃ rq2,rv=.agg (bC.cells rq2) /\ mW rq2 /\ St w0 L w':=by
 have g1:=ha.wh
 have g2:=ha.ot
 have g3:=ha.kd
 have g4:=ha.vw
 have g5:=ha.k
 have g6:=ha.ci
 have g7:=ha.tm
 have g8:=ha.ky
 refine dF Tryz.func104 Tryz.ntmps104 (En (Ls (Lg [0,1] (Dz (mT (fF.cells xa) hs λb1 w2 a5=>Lo (Dz (tW (bC.cells cP) a5 λb4 w5 a0=>Lo (Ld (Lt (Ls (Dz (dZ [13,19,23,24] (Hl 1 1 7 a0 (Hg 2 (.div (xa.ci % 3)) [.prop (IntKind.u8=IntKind.u8 /\ (3:Int)≠0 /\ Int.tmod xa.ci 3=xa.ci % 3)] (aJ ⟨rfl,zb,Int.tmod_eq_emod_of_nonneg (by first|omega|exact Int.natCast_nonneg _)⟩ aR) (eT 3 (xa.ci % 3) (eT 4 (1+(xa.ci % 3)) (Hl 6 1 8 a0 (Cz 7 xa.tm (Cz 8 (1+xa.tm) (Hl 10 1 9 a0 (Hg 11 (.div (xa.ky % 4)) [.prop (IntKind.u8=IntKind.u8 /\ (4:Int)≠0 /\ Int.tmod xa.ky 4=xa.ky % 4)] (aJ ⟨rfl,zb,Int.tmod_eq_emod_of_nonneg (by first|omega|exact Int.natCast_nonneg _)⟩ aR) (PO 12 (97+(xa.ky % 4)) Hz)))))))))) (aL.bU rfl zk (t:=66) (e:=5) (n:=1) (ps:=[(0,.int .u8 (97+(xa.ky % 4)))]) zk zk (ti:=Tryz.t5) (z:=.int .u8 0) zk zk zb zb (cs:=#[.int .u8 (97+(xa.ky % 4))]) zk a0 λb7 w8 a1 b3=>Lo (Dz (aL.rr rfl zk (src:=66) (dst:=9) (e:=5) (b:=b7) (off:=0) (cap:=1) (q:=([fY (97+(xa.ky % 4))]:List UInt8)) zk zk zk zk (ru [97+(xa.ky % 4)] (a1.at_ 0 rfl) (by intro x hx;simp only [List.mem_cons,List.not_mem_nil,or_false] at hx;omega)) (Zj (Hl 16 2 8 a1 (Hg 17 (.div (xa.tm % 10)) [.prop (IntKind.u8=IntKind.u8 /\ (10:Int)≠0 /\ Int.tmod xa.tm 10=xa.tm % 10)] (aJ ⟨rfl,zb,Int.tmod_eq_emod_of_nonneg (by first|omega|exact Int.natCast_nonneg _)⟩ aR) (PO 18 (48+(xa.tm % 10)) Hz))) (aL.bU rfl zk (t:=66) (e:=5) (n:=1) (ps:=[(0,.int .u8 (48+(xa.tm % 10)))]) zk zk (ti:=Tryz.t5) (z:=.int .u8 0) zk zk zb zb (cs:=#[.int .u8 (48+(xa.tm % 10))]) zk a1 λa6 b5 a2 b6=>Lo (Dz (aL.rr rfl zk (src:=66) (dst:=9) (e:=5) (b:=a6) (off:=0) (cap:=1) (q:=([fY (48+(xa.tm % 10))]:List UInt8)) zk zk zk zk (ru [48+(xa.tm % 10)] (a2.at_ 0 rfl) (by intro x hx;simp only [List.mem_cons,List.not_mem_nil,or_false] at hx;omega)) (En (Lw (tW (bC.cells cP) a2 λb9 c0 a7=>Lo (Dz (Zu 0 0 (bC.cells (⟨1+(xa.ci % 3),1+xa.tm,(⟨2,(⟨([fY (97+(xa.ky % 4))]:List UInt8).toArray⟩:ByteArray),(⟨([fY (48+(xa.tm % 10))]:List UInt8).toArray⟩:ByteArray),ku,ku,0⟩:pv),aI⟩:bC)) a7 λc1 u=>Lo (Ld (Lt (Ls (Ls (Dz (dE (Hl 1 4 11 u Hz) (Zt (eZ (t:=xa.fa) (λa8=>?_) (λa8=>?_)))))))))))))))))))))))))))))))))
 ·exact Zs (dZ [1] (hP 0 0 0 40 (bC.cells (⟨1+(xa.ci % 3),1+xa.tm,(⟨2,(⟨([fY (97+(xa.ky % 4))]:List UInt8).toArray⟩:ByteArray),(⟨([fY (48+(xa.tm % 10))]:List UInt8).toArray⟩:ByteArray),ku,ku,0⟩:pv),aI⟩:bC)) u Hz) (Zu 3 0 (bC.cells (⟨1+(xa.ci % 3),1+xa.tm,(⟨2,(⟨([fY (97+(xa.ky % 4))]:List UInt8).toArray⟩:ByteArray),(⟨([fY (48+(xa.tm % 10))]:List UInt8).toArray⟩:ByteArray),ku,ku,0⟩:pv),aI⟩:bC)) u λc2 a3=>Lo (Ld (Lt (Le (Ly (Dz (CI 3 a3 ⟨(⟨1+(xa.ci % 3),1+xa.tm,(⟨2,(⟨([fY (97+(xa.ky % 4))]:List UInt8).toArray⟩:ByteArray),(⟨([fY (48+(xa.tm % 10))]:List UInt8).toArray⟩:ByteArray),ku,ku,0⟩:pv),aI⟩:bC),rfl,⟨by dsimp only;omega,by dsimp only;omega,by dsimp only;omega,by dsimp only;omega,du⟩,a3.dr 5⟩))))))))
 ·exact Zk (Zt (Zs (dZ [1,2] (hP 0 0 0 40 (bC.cells (⟨1+(xa.ci % 3),1+xa.tm,(⟨2,(⟨([fY (97+(xa.ky % 4))]:List UInt8).toArray⟩:ByteArray),(⟨([fY (48+(xa.tm % 10))]:List UInt8).toArray⟩:ByteArray),ku,ku,0⟩:pv),aI⟩:bC)) u Hz) (CH (mZ (⟨1+(xa.ci % 3),1+xa.tm,(⟨2,(⟨([fY (97+(xa.ky % 4))]:List UInt8).toArray⟩:ByteArray),(⟨([fY (48+(xa.tm % 10))]:List UInt8).toArray⟩:ByteArray),ku,ku,0⟩:pv),aI⟩:bC) ⟨by dsimp only;omega,by dsimp only;omega,by dsimp only;omega,by dsimp only;omega,du⟩ u) λc4 b0=>Lo (Dz (Zu 3 0 (bC.cells (signed (⟨1+(xa.ci % 3),1+xa.tm,(⟨2,(⟨([fY (97+(xa.ky % 4))]:List UInt8).toArray⟩:ByteArray),(⟨([fY (48+(xa.tm % 10))]:List UInt8).toArray⟩:ByteArray),ku,ku,0⟩:pv),aI⟩:bC))) b0 λc5 a4=>Lo (Ld (Lt (Le (Dz (CI 3 a4 ⟨signed (⟨1+(xa.ci % 3),1+xa.tm,(⟨2,(⟨([fY (97+(xa.ky % 4))]:List UInt8).toArray⟩:ByteArray),(⟨([fY (48+(xa.tm % 10))]:List UInt8).toArray⟩:ByteArray),ku,ku,0⟩:pv),aI⟩:bC),rfl,zY ⟨by dsimp only;omega,by dsimp only;omega,by dsimp only;omega,by dsimp only;omega,du⟩,a4.dr 5⟩)))))))))))
theorem yt {wp:Nat}{ka:Option Addr}{kc:Nat}{kl:List aP}{aa:Option Addr}{ac:Nat}{al:List aK}{lp:Nat} o t (x:aQ) (ho:1 <= o /\ o <= x.n) (hs:St w0 (aB wp #[.slice ka kl.length kc,.slice aa al.length ac,zP lp 0] 35::LS lp t x::L) w):Cs Tryz.prog 103 #[zP wp 0,.int .i64 o] w λrv w'=>∃ gr2,rv=.int .u64 gr2 /\ (0 <= gr2 /\ gr2<18446744073709551616) /\ St w0 (aB wp #[.slice ka kl.length kc,.slice aa al.length ac,zP lp 0] 35::LS lp t x::L) w':=by
 obtain⟨n,kn,va,vc,vl,wa,wc,wl,ca,cc,cl⟩:=x
 obtain⟨hI0,a1⟩:=Bd.open (hs.pull 1 rfl)
 have hI:Inv t n vl wl cl:=hI0
 have a0:St w0 (aB lp (aQ.cells (⟨n,kn,va,vc,vl,wa,wc,wl,ca,cc,cl⟩:aQ)) 214::Sl va vc 209 4 aT.cells vl::aE cM vl::Sl wa wc 215 1 bD.ptr wl::aE cA wl::Sl ca cc 287 1 bT.cells cl::aE cF cl::aB wp #[.slice ka kl.length kc,.slice aa al.length ac,zP lp 0] 35::L) w:=a1
 have hn:3 <= n /\ n <= 11:=⟨hI.n3,hI.Jw⟩
 have hwl:=hI.hw
 have hcl:=hI.hc
 have hvt:=hI.hv
 have hvl:0<vl.length:=by obtain⟨z,hz,-⟩:=hI.h0;exact List.length_pos_of_mem hz
 obtain⟨vb,rfl⟩:=Sl.isSome (a0.at_ 1 rfl) za
 obtain⟨wb,rfl⟩:=Sl.isSome (a0.at_ 3 rfl) za
 obtain⟨cb,rfl⟩:=Sl.isSome (a0.at_ 5 rfl) za
 have b2:1 <= o /\ o <= n:=ho
 have a3:=a0.pl 4
 have a4:St w0 (cA (wq wl (o-1))::aE cA (wl.eraseIdx (Int.toNat (o-1)))::aB lp (aQ.cells (RF n kn vb vc vl wb wc wl cb cc cl)) 214::Sl (sm vb) vc 209 4 aT.cells vl::aE cM vl::Sl (sm wb) wc 215 1 bD.ptr wl::Sl (sm cb) cc 287 1 bT.cells cl::aE cF cl::aB wp #[.slice ka kl.length kc,.slice aa al.length ac,zP lp 0] 35::L) w:=aE.take bM za a3
 have a5:St w0 (PS ((wq wl (o-1)).b) ((wq wl (o-1)).x)::aE cA (wl.eraseIdx (Int.toNat (o-1)))::aB lp (aQ.cells (RF n kn vb vc vl wb wc wl cb cc cl)) 214::Sl (sm vb) vc 209 4 aT.cells vl::aE cM vl::Sl (sm wb) wc 215 1 bD.ptr wl::Sl (sm cb) cc 287 1 bT.cells cl::aE cF cl::aB wp #[.slice ka kl.length kc,.slice aa al.length ac,zP lp 0] 35::L) w:=a4
 obtain⟨a2,a6⟩:=Bd.open a5
 have u:St w0 (aB (wq wl (o-1)).b (dQ.cells ((wq wl (o-1)).x)) 286::Sl (((wq wl (o-1)).x).la) (((wq wl (o-1)).x).lc) 283 2 eS.cells (((wq wl (o-1)).x).ll)::aE cA (wl.eraseIdx (Int.toNat (o-1)))::aB lp (aQ.cells (RF n kn vb vc vl wb wc wl cb cc cl)) 214::Sl (sm vb) vc 209 4 aT.cells vl::aE cM vl::Sl (sm wb) wc 215 1 bD.ptr wl::Sl (sm cb) cc 287 1 bT.cells cl::aE cF cl::aB wp #[.slice ka kl.length kc,.slice aa al.length ac,zP lp 0] 35::L) w:=a6
 refine dF Tryz.func103 Tryz.ntmps103 (En (Lq (Ls (Dz (dE (Hl 3 9 2 u (Hl 6 3 13 u (eT 8 (o-1) (Hx 9 ((o-1):Int) (wl.length:Int) wb 0 1 (Hg 10 (.gen [zP ((wq wl (o-1)).b) 0]) [.cell ⟨wb,0+((Int.toNat (o-1))*1),none⟩ (zP ((wq wl (o-1)).b) 0)] (bE (aC.cV (u.rows 6 rfl F4.size bM) (k:=Int.toNat (o-1)) zo (j:=0) zb zk) aR) (Hl 13 0 0 u Hz)))))) (Zt (Ze (bY (v:=.int .u64 (((wq wl (o-1)).x).gr)) ?_))))))))
 have a1:St w0 (PS ((wq wl (o-1)).b) ((wq wl (o-1)).x)::aE cA (wl.eraseIdx (Int.toNat (o-1)))::aB lp (aQ.cells (RF n kn vb vc vl wb wc wl cb cc cl)) 214::Sl (sm vb) vc 209 4 aT.cells vl::aE cM vl::Sl (sm wb) wc 215 1 bD.ptr wl::Sl (sm cb) cc 287 1 bT.cells cl::aE cF cl::aB wp #[.slice ka kl.length kc,.slice aa al.length ac,zP lp 0] 35::L) w:=Bd.close a2 u
 have a7:St w0 (cA (wq wl (o-1))::aE cA (wl.eraseIdx (Int.toNat (o-1)))::aB lp (aQ.cells (RF n kn vb vc vl wb wc wl cb cc cl)) 214::Sl (sm vb) vc 209 4 aT.cells vl::aE cM vl::Sl (sm wb) wc 215 1 bD.ptr wl::Sl (sm cb) cc 287 1 bT.cells cl::aE cF cl::aB wp #[.slice ka kl.length kc,.slice aa al.length ac,zP lp 0] 35::L) w:=a1
 have a8:St w0 (aE cA wl::aB lp (aQ.cells (RF n kn vb vc vl wb wc wl cb cc cl)) 214::Sl (sm vb) vc 209 4 aT.cells vl::aE cM vl::Sl (sm wb) wc 215 1 bD.ptr wl::Sl (sm cb) cc 287 1 bT.cells cl::aE cF cl::aB wp #[.slice ka kl.length kc,.slice aa al.length ac,zP lp 0] 35::L) w:=aE.jK bM za a7
 have a9:=((((((a8.pl 6).pl 6).pl 2).pl 6).pl 6).pl 6).pl 6
 have b0:St w0 (LS lp t (RF n kn vb vc vl wb wc wl cb cc cl)::aB wp #[.slice ka kl.length kc,.slice aa al.length ac,zP lp 0] 35::L) w:=Bd.close hI a9
 exact⟨((wq wl (o-1)).x).gr,rfl,a2.2,(b0.pl 0).pl 1⟩
end
section
variable {w0 w : World} {L : List bA}
structure Mz where
 cl:Int
 tm:Int
deriving DecidableEq
def Mz.cells (x:Mz):Array Value:=#[.int .i64 x.cl,.int .u64 x.tm]
theorem Qp (a b:Mz):gF Tryz.prog 2 157 (.agg a.cells) (.agg b.cells)=decide (a=b):=by
 have h:gF Tryz.prog 2 157 (.agg a.cells) (.agg b.cells)=(a.cl == b.cl && (a.tm == b.tm && true)):=zk
 rw [h,ib,ib,Bool.and_true]
 obtain⟨u,w⟩:=a
 obtain⟨z,b1⟩:=b
 simp only [Mz.mk.injEq,Bool.decide_and]
abbrev gY:Mz -> Value:=λk=>.agg (Mz.cells k)
abbrev iH:Unit -> Value:=λ_=>.agg Jr
theorem KD (a b:Mz) (w:World):(Op.equal 157 (gY a) (gY b)).run Tryz.prog w=.ok (decide (a=b)) w:=by
 have h:=mA (P:=Tryz.prog) 2 157 (gY a) (gY b) 9998 w zk
 rw [Qp] at h
 exact h
theorem O7:gG Tryz.prog 124 gY iH 157 46 :=
 gG.ask zk (d:=.struct (Tryz.prog.fieldsOf 157)) zk (λa b=>rfl) KD (λa=>by simp [Instr.sameBits,gY,Mz.cells]) (λem a w=>rfl)
theorem DI {rn:Nat}{sa:Nat}{tm:Nat}{tn:TypeId} c t (hs:St w0 (aB rn #[.slice none 0 0,zP sa 0,.slice none 0 0,.map (some tm)] tn::bR gY iH tm ([])::L) w):Cs Tryz.prog 33 #[zP rn 0,.int .i64 c,.int .u64 t] w λrv w'=>rv=.tuple #[.agg Jr,.bool false] /\ St w0 (aB rn #[.slice none 0 0,zP sa 0,.slice none 0 0,.map (some tm)] tn::bR gY iH tm ([])::L) w':=by
 exact dF Tryz.func33 Tryz.ntmps33 (En (Ls (Lg [0] (Dz (tW Jr hs λb1 w2 u=>Lz (Ls (Lq (LF (Lk (Lt (Ls (Lg [11,12] (Dz (kJ 0 7 (Hl 3 1 3 u Hz) (aL.lookup rfl zk O7 (r:=tm) (k:=(⟨c,t⟩:Mz)) (ok:=true) zk u 2 rfl (z:=iH ()) zk (v:=.tuple #[.agg Jr,.bool false]) zk (En (Lw (tW Jr u λb4 w5 a2=>Lo (Dz (Zu 0 0 Jr a2 λw7 a0=>Lz (Ls (Dz (dZ [2] (hP 0 0 0 5 Jr a0 Hz) (Zu 1 0 Jr a0 λw9 a1=>Lz (Le (Dz (Rv 1 (.bool false) a1 ⟨rfl,a1.dr 2⟩)))))))))))))))))))))))))))
theorem I6 {r:Nat}{p:Nat}{wt:Nat}{lp:Nat}{cp:Nat}{gp:Nat}{wc:Nat}{tr:TypeId}{rn:Nat}{sa:Nat}{tm:Nat}{tn:TypeId}(q:bC) (k:Nat) (hrq:mW q) (hau:(dC q && decide (q.tg=jC q))=false) (hTab:∀ w,St w0 L w -> kA w) (hs:St w0 (aB r (RK (k:Nat) p wt lp cp gp rn wc) tr::aB rn #[.slice none 0 0,zP sa 0,.slice none 0 0,.map (some tm)] tn::bR gY iH tm ([])::L) w):Cs Tryz.prog 9 #[zP r 0,.agg (bC.cells q)] w λrv w'=>rv=.tuple #[.agg Jr,.bool false] /\ St w0 (aB r (RK (k:Nat) p wt lp cp gp rn wc) tr::aB rn #[.slice none 0 0,zP sa 0,.slice none 0 0,.map (some tm)] tn::bR gY iH tm ([])::L) w':=by
 refine dF Tryz.func9 Tryz.ntmps9 (En (Ls (Lg [0,1] (Dz (mT (bC.cells q) hs λb1 w2 a2=>Lo (Dz (tW Jr a2 λb4 w5 a3=>Lz (Ls (Lq (LF (Lk (Lt (Ls (Ls (Dz (ZD (gE [0,1,2,3,4,5,6,7] (.ef 8 (gE [9,10,11] (.ef 12 (.rd 13 .done))))) a3 λw7 u b0=>Zj (Hl 3 2 7 u (Hl 5 1 0 u (Hl 7 1 1 u Hz))) (CH (DI q.cl q.tm ((u.pl 4).pl 4)) λb3 a5=>Lo (Lw (Zu 2 0 Jr a5 λb5 a6=>Lz (Lq (LF (Lk (Lt (Lq (Ls (Ls (Dz (ZD (.rd 0 (.ef 1 (gE [2,3,4,5,6,8] (.ef 7 (.ef 9 (gE [10,11,12,13,14,15,16,17] (.ef 18 (gE [19,20,21,22,23,24,25,26,27,28] .done)))))))) a6 λb6 z b7=>Zj (hP 0 3 0 40 (bC.cells q) z Hz) (CH (F2 q hrq (λw h=>hTab w (h.drop 5)) z) λc0 a7=>Lo (Dz (Zr 2 1 [] (iy 27 (dC q && decide (q.tg=jC q)) (λa0=>?_) (λa0=>?_)))))))))))))))))))))))))))))))))
 ·exfalso;have hz:=a0;rw [hau] at hz;cases hz
 ·refine En (Lw (qR (qR (En (Lw (qR (En (cI (Lt (LF (Lk (Lt (Ls (Lg [1] (Lw (Zu 2 0 Jr a7 λc1 a1=>Lz (Le (Dz (Rv 2 (.bool false) a1 ?_)))))))))))))))))))
  have a8:=((((a1.pl 1).pl 1).pl 4).pl 4).pl 4
  exact⟨rfl,a8.dr 2⟩
def bW.put (v:bW) (i:Nat) (x:Int):bW:=#v[if i=0 then x else v[0],if i=1 then x else v[1],if i=2 then x else v[2],if i=3 then x else v[3],if i=4 then x else v[4],if i=5 then x else v[5],if i=6 then x else v[6],if i=7 then x else v[7],if i=8 then x else v[8],if i=9 then x else v[9],if i=10 then x else v[10],if i=11 then x else v[11],if i=12 then x else v[12],if i=13 then x else v[13],if i=14 then x else v[14],if i=15 then x else v[15],if i=16 then x else v[16],if i=17 then x else v[17],if i=18 then x else v[18],if i=19 then x else v[19],if i=20 then x else v[20],if i=21 then x else v[21],if i=22 then x else v[22],if i=23 then x else v[23],if i=24 then x else v[24],if i=25 then x else v[25],if i=26 then x else v[26],if i=27 then x else v[27],if i=28 then x else v[28],if i=29 then x else v[29],if i=30 then x else v[30],if i=31 then x else v[31]]
theorem bW.rF {p:Int -> Prop}{v:bW}{i:Nat}{x:Int}(h:∀ z∈v.toList,p z) (hx:p x):∀ z∈(bW.put v i x).toList,p z:=by
 have hk:∀ k (hk:k<32),p v[k]:=λk hk=>h _ (by simp [Vector.toList])
 intro z hz
 simp only [bW.put,Vector.toList,List.mem_cons,List.not_mem_nil,or_false] at hz
 rcases hz with rfl|rfl|rfl|rfl|rfl|rfl|rfl|rfl|rfl|rfl|rfl|rfl|rfl|rfl|rfl|rfl|rfl|rfl|rfl|rfl|rfl|rfl|rfl|rfl|rfl|rfl|rfl|rfl|rfl|rfl|rfl|rfl
 all_goals (split;exact hx;exact hk _ zb)
theorem bW.NX (v:bW) (x:Int){i:Nat}(hi:i<32):(bW.put v i x).toList.getD i 0=x:=by
 match i,hi with
 | 0,_=>rfl
 | 1,_=>rfl
 | 2,_=>rfl
 | 3,_=>rfl
 | 4,_=>rfl
 | 5,_=>rfl
 | 6,_=>rfl
 | 7,_=>rfl
 | 8,_=>rfl
 | 9,_=>rfl
 | 10,_=>rfl
 | 11,_=>rfl
 | 12,_=>rfl
 | 13,_=>rfl
 | 14,_=>rfl
 | 15,_=>rfl
 | 16,_=>rfl
 | 17,_=>rfl
 | 18,_=>rfl
 | 19,_=>rfl
 | 20,_=>rfl
 | 21,_=>rfl
 | 22,_=>rfl
 | 23,_=>rfl
 | 24,_=>rfl
 | 25,_=>rfl
 | 26,_=>rfl
 | 27,_=>rfl
 | 28,_=>rfl
 | 29,_=>rfl
 | 30,_=>rfl
 | 31,_=>rfl
 | m+32,h=>omega
theorem aK.NY (m:aK) (v:Int){k:Nat}(hk:k<32):aV (aK.cells m) (89+(k*1)) [.int .u8 v]=aK.cells ⟨m.og,m.nr,m.dp,m.bd,bW.put m.tg k v⟩:=by
 match k,hk with
 | 0,_=>rfl
 | 1,_=>rfl
 | 2,_=>rfl
 | 3,_=>rfl
 | 4,_=>rfl
 | 5,_=>rfl
 | 6,_=>rfl
 | 7,_=>rfl
 | 8,_=>rfl
 | 9,_=>rfl
 | 10,_=>rfl
 | 11,_=>rfl
 | 12,_=>rfl
 | 13,_=>rfl
 | 14,_=>rfl
 | 15,_=>rfl
 | 16,_=>rfl
 | 17,_=>rfl
 | 18,_=>rfl
 | 19,_=>rfl
 | 20,_=>rfl
 | 21,_=>rfl
 | 22,_=>rfl
 | 23,_=>rfl
 | 24,_=>rfl
 | 25,_=>rfl
 | 26,_=>rfl
 | 27,_=>rfl
 | 28,_=>rfl
 | 29,_=>rfl
 | 30,_=>rfl
 | 31,_=>rfl
 | m+32,h=>omega
theorem bC.NY (m:bC) (v:Int){k:Nat}(hk:k<32):aV (bC.cells m) (8+(k*1)) [.int .u8 v]=bC.cells ⟨m.cl,m.tm,m.op,bW.put m.tg k v⟩:=by
 match k,hk with
 | 0,_=>rfl
 | 1,_=>rfl
 | 2,_=>rfl
 | 3,_=>rfl
 | 4,_=>rfl
 | 5,_=>rfl
 | 6,_=>rfl
 | 7,_=>rfl
 | 8,_=>rfl
 | 9,_=>rfl
 | 10,_=>rfl
 | 11,_=>rfl
 | 12,_=>rfl
 | 13,_=>rfl
 | 14,_=>rfl
 | 15,_=>rfl
 | 16,_=>rfl
 | 17,_=>rfl
 | 18,_=>rfl
 | 19,_=>rfl
 | 20,_=>rfl
 | 21,_=>rfl
 | 22,_=>rfl
 | 23,_=>rfl
 | 24,_=>rfl
 | 25,_=>rfl
 | 26,_=>rfl
 | 27,_=>rfl
 | 28,_=>rfl
 | 29,_=>rfl
 | 30,_=>rfl
 | 31,_=>rfl
 | m+32,h=>omega
theorem MA {x b:Int}(hx:0 <= x /\ x<256) (hb:0 <= b /\ b<8):bX .u8 x (cD .u8 1 b)≠x /\ 0 <= bX .u8 x (cD .u8 1 b) /\ bX .u8 x (cD .u8 1 b)<256:=by
 obtain⟨n,rfl⟩:∃ n:Nat,x=n:=⟨x.toNat,za⟩
 obtain⟨m,rfl⟩:∃ m:Nat,b=m:=⟨b.toNat,za⟩
 have hn:n<256:=za
 have hm:m<8:=za
 revert m
 have h:∀ n:Fin 256,∀ m:Fin 8,bX .u8 (n.val:Int) (cD .u8 1 (m.val:Int))≠(n.val:Int) /\ 0 <= bX .u8 (n.val:Int) (cD .u8 1 (m.val:Int)) /\ bX .u8 (n.val:Int) (cD .u8 1 (m.val:Int))<256:=by decide +kernel
 intro m _ hm
 exact h ⟨n,hn⟩ ⟨m,hm⟩
theorem Hf {g:bW}(hg:∀ z∈g.toList,0 <= z /\ z<256){i:Nat}(hi:i<32){b:Int}(hb:0 <= b /\ b<8):bW.put g i (bX .u8 (g.toList.getD i 0) (cD .u8 1 b))≠g /\ ∀ z∈(bW.put g i (bX .u8 (g.toList.getD i 0) (cD .u8 1 b))).toList,0 <= z /\ z<256:=by
 have h:=MA (hg _ (bJ (d:=(0:Int)) (show i<g.toList.length by rw [bW.len];exact hi))) hb
 refine⟨λe=>h.1 ?_,bW.rF (p:=λz=>0 <= z /\ z<256) hg h.2⟩
 have:=bW.NX g (bX .u8 (g.toList.getD i 0) (cD .u8 1 b)) hi
 rw [e] at this
 exact this.symm
def ur (m:aK) (g:bW):aK:=⟨m.og,m.nr,m.dp,m.bd,g⟩
theorem I7 (m:aK) (g:bW):gv (ur m g)=gv m:=by
 unfold gv yh ur
 rfl
theorem I8 (m:aK) (g:bW):pZ (ur m g)=pZ m:=by
 unfold pZ iO ur
 rfl
theorem KE {m:aK}(h:lP m){g:bW}(hg:∀ z∈g.toList,0 <= z /\ z<256):lP (ur m g):=⟨h.og,h.nr,h.dp,h.bd,hg⟩
theorem DJ {m:aK}(h:DE m){g:bW}(hg:g≠m.tg):kD (ur m g)=false:=by
 unfold kD
 rw [if_pos ((I7 m g).trans h.may),I8]
 refine decide_eq_false λe=>hg ?_
 have u:g=mE m.og m.nr (pZ m):=e
 rw [u,h.tg,show pN m=pZ m from if_pos h.may]
def qf (q:bC) (g:bW):bC:=⟨q.cl,q.tm,q.op,g⟩
theorem DK (q:bC) (g:bW):dC (qf q g)=dC q:=by
 unfold dC qf
 rfl
theorem wI (q:bC) (g:bW):jC (qf q g)=jC q:=by
 unfold jC qf oo
 rfl
theorem KF {q:bC}(h:mW q){g:bW}(hg:∀ z∈g.toList,0 <= z /\ z<256):mW (qf q g):=⟨h.cl,h.tm,h.kd,h.am,hg⟩
theorem DL {q:bC}(h:dC q=true -> q.tg=jC q){g:bW}(hg:g≠q.tg):(dC (qf q g) && decide ((qf q g).tg=jC (qf q g)))=false:=by
 rw [DK,wI]
 cases ha:dC q with
 | false=>rfl
 | true =>
  rw [Bool.true_and]
  exact decide_eq_false λe=>hg (by rw [h ha];exact e)
theorem Gc {r:bC}(h:dC (signed r)=true):(signed r).tg=jC (signed r):=by
 unfold signed at h ⊢
 split
 ·exact(wI r (jC r)).symm
 ·rename_i hn
  rw [if_neg hn] at h
  rw [pA] at hn
  exact absurd h hn
end
section
variable {w0 w : World} {L : List bA}
theorem I9 c t (hc:0 <= c /\ c <= 255) (htm:0 <= t /\ t <= 255) (hs:St w0 L w):Cs Tryz.prog 8 #[.int .u8 c,.int .u8 t,.int .u8 0] w λrv w'=>∃ rq2,rv=.agg (bC.cells rq2) /\ mW rq2 /\ (dC rq2=true -> rq2.tg=jC rq2) /\ St w0 L w':=by
 exact dF Tryz.func8 Tryz.ntmps8 (En (Ls (Lg [0] (Dz (tW (bC.cells cP) hs λb1 w2 a2=>Lo (Ld (Lt (Ls (Dz (dZ [10,15,19,20] (eT 1 c (Hg 2 (.div (c % 4)) [.prop (IntKind.i64=IntKind.i64 /\ (4:Int)≠0 /\ Int.tmod c 4=c % 4)] (aJ ⟨rfl,zb,Int.tmod_eq_emod_of_nonneg (by first|omega|exact Int.natCast_nonneg _)⟩ aR) (eT 3 (1+(c % 4)) (Cz 5 t (Cz 6 (1+t) (Hg 8 (.div 0) [.prop (IntKind.u8=IntKind.u8 /\ (4:Int)≠0 /\ Int.tmod 0 4=0)] (aJ zb aR) Hz)))))) (aL.bU rfl zk (t:=66) (e:=5) (n:=1) (ps:=[(0,.int .u8 97)]) zk zk (ti:=Tryz.t5) (z:=.int .u8 0) zk zk zb zb (cs:=#[.int .u8 97]) zk a2 λb4 w5 u a5=>Lo (Dz (aL.rr rfl zk (src:=66) (dst:=9) (e:=5) (b:=b4) (off:=0) (cap:=1) (q:=([fY 97]:List UInt8)) zk zk zk zk (ru [97] (u.at_ 0 rfl) (by intro x hx;simp only [List.mem_cons,List.not_mem_nil,or_false] at hx;omega)) (Zj (Hg 13 (.div (t % 10)) [.prop (IntKind.u8=IntKind.u8 /\ (10:Int)≠0 /\ Int.tmod t 10=t % 10)] (aJ ⟨rfl,zb,Int.tmod_eq_emod_of_nonneg (by first|omega|exact Int.natCast_nonneg _)⟩ aR) (PO 14 (48+(t % 10)) Hz)) (aL.bU rfl zk (t:=66) (e:=5) (n:=1) (ps:=[(0,.int .u8 (48+(t % 10)))]) zk zk (ti:=Tryz.t5) (z:=.int .u8 0) zk zk zb zb (cs:=#[.int .u8 (48+(t % 10))]) zk u λb8 w9 a0 a6=>Lo (Dz (aL.rr rfl zk (src:=66) (dst:=9) (e:=5) (b:=b8) (off:=0) (cap:=1) (q:=([fY (48+(t % 10))]:List UInt8)) zk zk zk zk (ru [48+(t % 10)] (a0.at_ 0 rfl) (by intro x hx;simp only [List.mem_cons,List.not_mem_nil,or_false] at hx;omega)) (En (Lw (CH (mZ (⟨1+(c % 4),1+t,(⟨2,(⟨([fY 97]:List UInt8).toArray⟩:ByteArray),(⟨([fY (48+(t % 10))]:List UInt8).toArray⟩:ByteArray),ku,ku,0⟩:pv),aI⟩:bC) ⟨by dsimp only;omega,by dsimp only;omega,by dsimp only;omega,by dsimp only;omega,du⟩ a0) λa8 a3=>Lo (Dz (Zu 2 0 (bC.cells (signed (⟨1+(c % 4),1+t,(⟨2,(⟨([fY 97]:List UInt8).toArray⟩:ByteArray),(⟨([fY (48+(t % 10))]:List UInt8).toArray⟩:ByteArray),ku,ku,0⟩:pv),aI⟩:bC))) a3 λa9 a1=>Lo (Ld (Lt (Le (Dz (CI 2 a1 ⟨signed (⟨1+(c % 4),1+t,(⟨2,(⟨([fY 97]:List UInt8).toArray⟩:ByteArray),(⟨([fY (48+(t % 10))]:List UInt8).toArray⟩:ByteArray),ku,ku,0⟩:pv),aI⟩:bC),rfl,zY ⟨by dsimp only;omega,by dsimp only;omega,by dsimp only;omega,by dsimp only;omega,du⟩,Gc,a1.dr 3⟩)))))))))))))))))))))))))))
end
section
variable {w0 w : World} {L : List bA}
def pP (m:aK):aK:=⟨m.og,m.nr,m.dp,m.bd,mE m.og m.nr (pN m)⟩
theorem EB (m:aK):gv (pP m)=gv m:=by
 unfold gv yh pP
 rfl
theorem LP (m:aK):pZ (pP m)=pZ m:=by
 unfold pZ iO pP
 rfl
theorem MO (m:aK):pN (pP m)=pN m:=by
 unfold pN
 rw [EB,LP]
theorem MP {m:aK}(hm:lP m):lP (pP m):=by
 have u:=Du m.og m.nr (pN m)
 unfold pP
 generalize mE m.og m.nr (pN m)=d at u ⊢
 exact⟨hm.og,hm.nr,hm.dp,hm.bd,u⟩
theorem MQ (m:aK):(pP m).tg=mE (pP m).og (pP m).nr (pN (pP m)):=by
 rw [MO]
 unfold pP
 rfl
theorem Jj {m:aK}(hm:lP m) (h:gv m=true):DE (pP m):=⟨MP hm,(EB m).trans h,MQ m⟩
theorem Cb m (hm:lP m) (hmay:gv m=true) (hr:Rw w0 L bu.cells 2 bG m.bd.qa m.bd.ql) (hs:St w0 L w):Cs Tryz.prog 16 #[.agg (aK.cells m)] w λrv w'=>rv=.agg (aK.cells (pP m)) /\ St w0 L w':=by
 have hmt:=vY hmay
 have htl:=vU hmay
 have htb:∀ z∈pZ m,0 <= z /\ z<256:=GZ hm
 have hby:pN m=pZ m:=if_pos hmay
 have hbl:(pN m).length <= 1024:=by rw [hby];omega
 have g2:=hm.nr
 refine dF Tryz.func16 Tryz.ntmps16 (En (Ls (Lg [0,1] (Dz (mT (aK.cells m) hs λb1 w2 a4=>Lo (Dz (tW (aK.cells fE) a4 λb4 w5 a1=>Lo (Ld (Lt (Ls (Ls (Dz (dZ [1] (hP 0 1 0 121 (aK.cells m) a1 Hz) (dJ (f:=50) (args:=#[.agg (aK.cells m)]) Tryz.call50 (pC m hm (λw h=>hr _ (h.drop 2)) a1) ?_))))))))))))))
 rintro v8 w9 ⟨rfl,a5⟩
 refine Lo (Ld (Lt (Dz (eZ (t:=gv m) (λ_=>ZD (gE [0,1,2,3,4] (.ef 5 (.ef 6 (.rd 7 (.ef 8 .done))))) a5 λb0 u b2=>Zj (Hl 1 1 0 u (Hl 3 1 1 u (hP 4 1 0 121 (aK.cells m) u Hz))) (dJ (f:=52) (args:=#[.agg (aK.cells m)]) Tryz.call52 (C7 m hm (λw h=>hr _ (h.drop 2)) u) ?_)) (λhc=>absurd (hmay.symm.trans hc) zb)))))
 rintro b3 b5 ⟨a6,a7,rfl,a0⟩
 refine⟨Mv a0 2 rfl [1,0],dJ (f:=51) (args:=#[.int .i64 m.og,.int .u64 m.nr,.slice a6 ((pN m).length) a7]) Tryz.call51 (FX m.og m.nr (pN m) za za za za (a0.hZ 0 rfl) (by rw [hby];exact htb) (λw h=>h.rows 0 rfl aF.size _) a0) ?_⟩
 rintro b6 b7 ⟨rfl,a8⟩
 exact Lo (Lw (Zu 2 89 (aK.cells (⟨m.og,m.nr,m.dp,m.bd,mE m.og m.nr (pN m)⟩:aK)) a8 λb9 a2=>Lo (Ld (Lt (Ls (Dz (dZ [1] (hP 0 2 0 121 (aK.cells (⟨m.og,m.nr,m.dp,m.bd,mE m.og m.nr (pN m)⟩:aK)) a2 Hz) (Zu 1 0 (aK.cells (⟨m.og,m.nr,m.dp,m.bd,mE m.og m.nr (pN m)⟩:aK)) a2 λc0 a3=>Lo (Ld (Lt (Le (Dz (CI 1 a3 ⟨rfl,a3.dr 3⟩)))))))))))))
def Ok (l:List bu):Prop:=∀ p∈l,(-9223372036854775808 <= p.rp /\ p.rp <= 9223372036854775807) /\ (0 <= p.nm /\ p.nm <= 18446744073709551615)
theorem Ok.app {l:List bu}{p:bu}(h:Ok l) (hp:(-9223372036854775808 <= p.rp /\ p.rp <= 9223372036854775807) /\ (0 <= p.nm /\ p.nm <= 18446744073709551615)):Ok (l++[p]):=λq hq=>(List.mem_append.1 hq).elim (h q) (λhq=>by obtain rfl:=List.mem_singleton.1 hq;exact hp)
theorem Jk {wp:Nat}{ka:Option Addr}{kc:Nat}{kl:List aP}{aa:Option Addr}{ac:Nat}{al:List aK}{lp:Nat} o (xa:fF) v t (x:aQ) (ho:1 <= o /\ o <= x.n) (hkl:(kl.length:Int)=x.n) (ha:Gb xa) (hxq:xa.ql.length <= 1000) (ht:t <= 90) (hr:Rw w0 L aD 1 0 xa.qa xa.ql) (hs:St w0 (aB wp #[.slice ka kl.length kc,.slice aa al.length ac,zP lp 0] 35::Sl ka kc 50 11 aP.cells kl::LS lp t x::L) w):Cs Tryz.prog 106 #[zP wp 0,.int .i64 o,.agg (fF.cells xa),.int .u64 v] w λrv w'=>∃ ao co ql2,rv=.slice ao ql2.length co /\ (ql2.length <= 5000) /\ (Ok ql2) /\ St w0 (aB wp #[.slice ka kl.length kc,.slice aa al.length ac,zP lp 0] 35::Sl ka kc 50 11 aP.cells kl::LS lp t x::Sl ao co 174 2 bu.cells ql2::L) w':=by
 obtain⟨n,kn,va,vc,vl,wa,wc,wl,ca,cc,cl⟩:=x
 obtain⟨hI0,b6⟩:=Bd.open (hs.pull 2 rfl)
 have hI:Inv t n vl wl cl:=hI0
 have a7:St w0 (aB lp (aQ.cells (⟨n,kn,va,vc,vl,wa,wc,wl,ca,cc,cl⟩:aQ)) 214::Sl va vc 209 4 aT.cells vl::aE cM vl::Sl wa wc 215 1 bD.ptr wl::aE cA wl::Sl ca cc 287 1 bT.cells cl::aE cF cl::aB wp #[.slice ka kl.length kc,.slice aa al.length ac,zP lp 0] 35::Sl ka kc 50 11 aP.cells kl::L) w:=b6
 have hn:3 <= n /\ n <= 11:=⟨hI.n3,hI.Jw⟩
 have hwl:=hI.hw
 have hcl:=hI.hc
 have hvt:=hI.hv
 have hvl:0<vl.length:=by obtain⟨z,hz,-⟩:=hI.h0;exact List.length_pos_of_mem hz
 obtain⟨vb,rfl⟩:=Sl.isSome (a7.at_ 1 rfl) za
 obtain⟨wb,rfl⟩:=Sl.isSome (a7.at_ 3 rfl) za
 obtain⟨cb,rfl⟩:=Sl.isSome (a7.at_ 5 rfl) za
 have j8:1 <= o /\ o <= n:=ho
 have j9:(kl.length:Int)=n:=hkl
 obtain⟨kb,rfl⟩:=Sl.isSome (a7.at_ 8 rfl) za
 have hbi:True:=trivial
 refine dF Tryz.func106 Tryz.ntmps106 (En (Ls (Lg [0] (Dz (mT (fF.cells xa) (St.eB a7 174 2 bu.cells) λu w8 c6=>Lz (Lq (Ls (Dz (dE (Hl 3 9 0 c6 Hz) (En (Lt (Ls (Lq (Lb (Dz (aX.loop (T:=Nat×(Option Addr)×Nat×(List bu)) (λgg=>[(0,zP wp 0),(1,.int .i64 o),(3,.int .u64 v),(6,zP u 0),(8,.slice none 0 0),(9,.slice gg.2.1 gg.2.2.2.length gg.2.2.1),(10,.int .i64 (kl.length:Nat)),(11,.int .i64 ((gg.1:Nat)+1))]) (λgg w=>((gg.1:Int) <= n /\ gg.2.2.2.length <= gg.1*100 /\ Ok gg.2.2.2) /\ St w0 (Sl gg.2.1 gg.2.2.1 174 2 bu.cells gg.2.2.2::aB u (fF.cells xa) 68::aB lp (aQ.cells (RF n kn vb vc vl wb wc wl cb cc cl)) 214::Sl (sm vb) vc 209 4 aT.cells vl::aE cM vl::Sl (sm wb) wc 215 1 bD.ptr wl::aE cA wl::Sl (sm cb) cc 287 1 bT.cells cl::aE cF cl::aB wp #[zL kb 0 kl.length kc,.slice aa al.length ac,zP lp 0] 35::Sl (sm kb) kc 50 11 aP.cells kl::L) w) (λgg=>n.toNat+1-gg.1) (0,none,0,([]:List bu)) [0,1,3,6,8,9,10,11] zk ⟨⟨za,Nat.zero_le _,λp hp=>absurd hp List.not_mem_nil⟩,((((((((((c6.pl 10).pl 10).pl 10).pl 10).pl 10).pl 10).pl 10).pl 10).pl 10).pl 9).pl 10⟩ ?_))))))))))))))))
 rintro⟨j,oa,oc,l⟩ k0 ⟨hp,b9⟩
 dsimp only at hp b9
 refine Zs (Zs (aX.join (T:=Unit) (E:=λ_=>[(30,.bool ((decide (((j:Nat)+1:Int) <= (kl.length:Nat))) && (decide ((l.length:Int) <= (((kl.length:Nat)-1) / 2))))),(0,zP wp 0),(1,.int .i64 o),(3,.int .u64 v),(6,zP u 0),(8,.slice none 0 0),(9,.slice oa l.length oc),(10,.int .i64 (kl.length:Nat)),(11,.int .i64 ((j:Nat)+1))]) (F:=λ_ w=>St w0 (Sl oa oc 174 2 bu.cells l::aB u (fF.cells xa) 68::aB lp (aQ.cells (RF n kn vb vc vl wb wc wl cb cc cl)) 214::Sl (sm vb) vc 209 4 aT.cells vl::aE cM vl::Sl (sm wb) wc 215 1 bD.ptr wl::aE cA wl::Sl (sm cb) cc 287 1 bT.cells cl::aE cF cl::aB wp #[zL kb 0 kl.length kc,.slice aa al.length ac,zP lp 0] 35::Sl (sm kb) kc 50 11 aP.cells kl::L) w) ?_ ?_))
 ·refine Zg [] (Zr 0 4 [] (iy 23 (decide (((j:Nat)+1:Int) <= (kl.length:Nat))) (λa8=>?_) (λa8=>?_)))
  ·exact kV (eT 7 ((kl.length:Nat)-1) (Hg 8 (.div (((kl.length:Nat)-1) / 2)) [.prop (IntKind.i64=IntKind.i64 /\ (2:Int)≠0 /\ IntKind.i64.wrap (Int.tdiv ((kl.length:Nat)-1) 2)=((kl.length:Nat)-1) / 2)] (aJ ⟨rfl,zb,by rw [Int.tdiv_eq_ediv_of_nonneg za];exact uP za za⟩ aR) Hz)) (lM [30,0,1,3,6,8,9,10,11] () (decide ((l.length:Int) <= (((kl.length:Nat)-1) / 2))) (by first|rfl|simp [Hb,a8]) b9)
  ·exact En (cI (Dz (lM [30,0,1,3,6,8,9,10,11] () false (by first|rfl|simp [Hb,a8]) b9)))
 intro _ c7 a3
 refine Zt (eZ (t:=(decide (((j:Nat)+1:Int) <= (kl.length:Nat))) && (decide ((l.length:Int) <= (((kl.length:Nat)-1) / 2)))) (λc0=>?_) (λc0=>?_))
 ·have d5:=(Bool.and_eq_true_iff.1 c0).1
  have k1:=of_decide_eq_true d5
  have d6:=(Bool.and_eq_true_iff.1 c0).2
  have k2:=of_decide_eq_true d6
  refine Zk (Zt (Zs (Zb (Zs ?_))))
  refine dE (Hl 3 9 2 a3 (Hl 6 2 14 a3 (Hg 8 (.dH (.int .i64 (j:Nat)) (.gen [])) [.prop (Value.int .i64 (IntKind.i64.wrap (((j:Nat)+1)-1))=Value.int .i64 (j:Nat))] (aJ (ct za za za) aR) (Hx 9 (j:Int) (cl.length:Int) cb 0 1 (Hg 10 (.gen [.slice ((cl.getD j cE).ca) ((cl.getD j cE).cl.length) ((cl.getD j cE).cc)]) [.cell ⟨cb,0+(j*1),none⟩ (.slice ((cl.getD j cE).ca) ((cl.getD j cE).cl.length) ((cl.getD j cE).cc))] (bE (aC.cV (a3.rows 7 rfl Dy.size cE) (k:=j) zo (j:=0) zb zk) aR) Hz))))) (Zt (Zs ?_))
  have d7:=a3.pl 8
  have d8:St w0 (cF (cl.getD j cE)::aE cF (cl.eraseIdx j)::Sl oa oc 174 2 bu.cells l::aB u (fF.cells xa) 68::aB lp (aQ.cells (RF n kn vb vc vl wb wc wl cb cc cl)) 214::Sl (sm vb) vc 209 4 aT.cells vl::aE cM vl::Sl (sm wb) wc 215 1 bD.ptr wl::aE cA wl::Sl (sm cb) cc 287 1 bT.cells cl::aB wp #[zL kb 0 kl.length kc,.slice aa al.length ac,zP lp 0] 35::Sl (sm kb) kc 50 11 aP.cells kl::L) c7:=aE.take cE za d7
  obtain⟨_,d9⟩:=Bd.open d8
  have e0:St w0 (Sl ((cl.getD j cE).ca) ((cl.getD j cE).cc) 289 2 dY.cells ((cl.getD j cE).cl)::aE cF (cl.eraseIdx j)::Sl oa oc 174 2 bu.cells l::aB u (fF.cells xa) 68::aB lp (aQ.cells (RF n kn vb vc vl wb wc wl cb cc cl)) 214::Sl (sm vb) vc 209 4 aT.cells vl::aE cM vl::Sl (sm wb) wc 215 1 bD.ptr wl::aE cA wl::Sl (sm cb) cc 287 1 bT.cells cl::aB wp #[zL kb 0 kl.length kc,.slice aa al.length ac,zP lp 0] 35::Sl (sm kb) kc 50 11 aP.cells kl::L) c7:=d9
  have hgc:=hI.hg _ (bJ (d:=cE) (show j<cl.length by omega))
  refine Za (Zt (Zb ?_))
  obtain⟨ga,hga⟩:∃ a,a=(cl.getD j cE).ca:=⟨_,rfl⟩
  refine aX.loop (T:=Nat×(Option Addr)×(Option Addr)×Nat×(List bu)) (λgg=>[(0,zP wp 0),(1,.int .i64 o),(3,.int .u64 v),(6,zP u 0),(8,.slice none 0 0),(9,.slice gg.2.2.1 gg.2.2.2.2.length gg.2.2.2.1),(10,.int .i64 (kl.length:Nat)),(11,.int .i64 ((j:Nat)+1)),(12,.slice gg.2.1 ((cl.getD j cE).cl.length) ((cl.getD j cE).cc)),(13,.int .i64 (gg.1:Nat))]) (λgg w=>(gg.1 <= (cl.getD j cE).cl.length /\ gg.2.1=ga /\ gg.2.2.2.2.length <= j*100+gg.1 /\ Ok gg.2.2.2.2) /\ St w0 (Sl gg.2.1 ((cl.getD j cE).cc) 289 2 dY.cells ((cl.getD j cE).cl)::Sl gg.2.2.1 gg.2.2.2.1 174 2 bu.cells gg.2.2.2.2::aE cF (cl.eraseIdx j)::aB u (fF.cells xa) 68::aB lp (aQ.cells (RF n kn vb vc vl wb wc wl cb cc cl)) 214::Sl (sm vb) vc 209 4 aT.cells vl::aE cM vl::Sl (sm wb) wc 215 1 bD.ptr wl::aE cA wl::Sl (sm cb) cc 287 1 bT.cells cl::aB wp #[zL kb 0 kl.length kc,.slice aa al.length ac,zP lp 0] 35::Sl (sm kb) kc 50 11 aP.cells kl::L) w) (λgg=>(cl.getD j cE).cl.length-gg.1) (0,(cl.getD j cE).ca,oa,oc,l) [0,1,3,6,8,9,10,11,12,13] zk ⟨⟨Nat.zero_le _,hga.symm,(show l.length <= j*100+0 by omega),hp.2.2⟩,(((((((((((e0.pl 11).pl 11).pl 11).pl 11).pl 11).pl 11).pl 11).pl 11).pl 11).pl 10).pl 11).pl 11⟩ ?_
  rintro⟨i,aq,oa,oc,l⟩ c1 ⟨a4,b3⟩
  dsimp only at a4 b3
  refine En (Ls (Lq (Dz (Zi ((i:Int)<((cl.getD j cE).cl.length:Nat)) (λe2=>?_) (λe2=>?_)))))
  ·have hk:i<(cl.getD j cE).cl.length:=za
   obtain⟨a0,rfl⟩:=Sl.isSome (b3.at_ 0 rfl) za
   refine Zk (Zt (Zs (Zb (Zs (aX.join (T:=Unit) (E:=λ_=>[(80,.bool ((((((((cl.getD j cE).cl).getD i nL).vw):Int) == v) && (decide (((((cl.getD j cE).cl).getD i nL).nm:Int) <= ((kl.getD (Int.toNat (o-1)) dB).toList.getD j 0)))) && (!xa.ra))),(0,zP wp 0),(1,.int .i64 o),(3,.int .u64 v),(6,zP u 0),(8,.slice none 0 0),(9,.slice oa l.length oc),(10,.int .i64 (kl.length:Nat)),(11,.int .i64 ((j:Nat)+1)),(12,zL a0 0 ((cl.getD j cE).cl.length) ((cl.getD j cE).cc)),(13,.int .i64 (i:Nat))]) (F:=λ_ w=>St w0 (Sl (sm a0) ((cl.getD j cE).cc) 289 2 dY.cells ((cl.getD j cE).cl)::Sl oa oc 174 2 bu.cells l::aE cF (cl.eraseIdx j)::aB u (fF.cells xa) 68::aB lp (aQ.cells (RF n kn vb vc vl wb wc wl cb cc cl)) 214::Sl (sm vb) vc 209 4 aT.cells vl::aE cM vl::Sl (sm wb) wc 215 1 bD.ptr wl::aE cA wl::Sl (sm cb) cc 287 1 bT.cells cl::aB wp #[zL kb 0 kl.length kc,.slice aa al.length ac,zP lp 0] 35::Sl (sm kb) kc 50 11 aP.cells kl::L) w) ?_ ?_)))))
   ·refine ZD (gE [0,1,2,3,4,5,6,7,8,9,10,11,12,13,14,15,16,17,18,19,20,21,22,23,24,25,26,27,28,29,30] .done) b3 λk3 a2 k4=>Zp 0 8 [(2,.dH (zP a0 (0+(i*2))) .at_),(4,.gen [.int .u64 ((((cl.getD j cE).cl).getD i nL).vw)])] [(2,[.prop (0 <= (i:Int) /\ (i:Int)<((cl.getD j cE).cl.length:Int)),.prop (Value.pointer (some (Addr.add ⟨a0,0,none⟩ (Int.toNat (i:Nat)*2)))=Value.pointer (some ⟨a0,0+(i*2),none⟩))]),(4,[.cell ⟨a0,0+(i*2),none⟩ (.int .u64 ((((cl.getD j cE).cl).getD i nL).vw))])] (ak (aJ za (aJ (aU _ _ _) aR)) (ak (bE (aC.cV (a2.rows 0 rfl F3.size nL) (k:=i) zo (j:=0) zb zk) aR) iF)) (iy 57 ((((((cl.getD j cE).cl).getD i nL).vw):Int) == v) (λa1=>?_) (λa1=>?_))
    ·have e3:=kr a1
     refine Zp 8 19 [(10,.dH (zP a0 (0+(i*2))) .at_),(12,.gen [.int .u64 ((((cl.getD j cE).cl).getD i nL).nm)]),(16,.gen [zL kb 0 kl.length kc]),(18,.dH (.int .i64 (o-1)) (.gen [])),(20,.dH (.int .i64 (j:Nat)) (.gen [])),(21,.dH (zP kb (0+((Int.toNat (o-1))*11))) .at_),(22,.dH (zP kb (0+((Int.toNat (o-1))*11)+(j*1))) .at_),(23,.gen [.int .u64 ((kl.getD (Int.toNat (o-1)) dB).toList.getD j 0)])] [(10,[.prop (0 <= (i:Int) /\ (i:Int)<((cl.getD j cE).cl.length:Int)),.prop (Value.pointer (some (Addr.add ⟨a0,0,none⟩ (Int.toNat (i:Nat)*2)))=Value.pointer (some ⟨a0,0+(i*2),none⟩))]),(12,[.cell ⟨a0,0+(i*2)+1,none⟩ (.int .u64 ((((cl.getD j cE).cl).getD i nL).nm))]),(16,[.cell ⟨wp,0,none⟩ (zL kb 0 kl.length kc)]),(18,[.prop (Value.int .i64 (IntKind.i64.wrap (o-1))=Value.int .i64 (o-1))]),(20,[.prop (Value.int .i64 (IntKind.i64.wrap (((j:Nat)+1)-1))=Value.int .i64 (j:Nat))]),(21,[.prop (0 <= ((o-1):Int) /\ ((o-1):Int)<(kl.length:Int)),.prop (Value.pointer (some (Addr.add ⟨kb,0,none⟩ (Int.toNat (o-1)*11)))=Value.pointer (some ⟨kb,0+((Int.toNat (o-1))*11),none⟩))]),(22,[.prop (0 <= (j:Int) /\ (j:Int)<(11:Int)),.prop (Value.pointer (some (Addr.add ⟨kb,0+((Int.toNat (o-1))*11),none⟩ (Int.toNat (j:Nat)*1)))=Value.pointer (some ⟨kb,0+((Int.toNat (o-1))*11)+(j*1),none⟩))]),(23,[.cell ⟨kb,0+((Int.toNat (o-1))*11)+(j*1),none⟩ (.int .u64 ((kl.getD (Int.toNat (o-1)) dB).toList.getD j 0))])] (ak (aJ za (aJ (aU _ _ _) aR)) (ak (bE (aC.cV (a2.rows 0 rfl F3.size nL) (k:=i) zo (j:=1) zb zk) aR) (ak (bE (a2.cell 10 rfl zk) aR) (ak (aJ (iD za za) aR) (ak (aJ (ct za za za) aR) (ak (aJ za (aJ (aU _ _ _) aR)) (ak (aJ za (aJ (aU _ _ _) aR)) (ak (bE (nd (k:=Int.toNat (o-1)) (i:=j) (a2.rows 11 rfl mv.size dB) za za) aR) iF)))))))) (iy 76 (decide (((((cl.getD j cE).cl).getD i nL).nm:Int) <= ((kl.getD (Int.toNat (o-1)) dB).toList.getD j 0))) (λa5=>?_) (λa5=>?_))
     ·exact kV (Hl 28 3 3 a2 Hz) (aS.pick [80,0,1,3,6,8,9,10,11,12,13] (S':=[(80,.bool (!xa.ra)),(0,zP wp 0),(1,.int .i64 o),(3,.int .u64 v),(6,zP u 0),(8,.slice none 0 0),(9,.slice oa l.length oc),(10,.int .i64 (kl.length:Nat)),(11,.int .i64 ((j:Nat)+1)),(12,zL a0 0 ((cl.getD j cE).cl.length) ((cl.getD j cE).cc)),(13,.int .i64 (i:Nat))]) zk (aS.eF () (by first|rfl|(simp only [a1,a5,Bool.not_true,Bool.not_false,Bool.true_or,Bool.false_or,Bool.true_and,Bool.false_and,Bool.or_true,Bool.or_false,Bool.and_true,Bool.and_false];done)|(simp [a1,a5];done)) a2))
     ·exact En (cI (Dz (aS.pick [80,0,1,3,6,8,9,10,11,12,13] (S':=[(80,.bool false),(0,zP wp 0),(1,.int .i64 o),(3,.int .u64 v),(6,zP u 0),(8,.slice none 0 0),(9,.slice oa l.length oc),(10,.int .i64 (kl.length:Nat)),(11,.int .i64 ((j:Nat)+1)),(12,zL a0 0 ((cl.getD j cE).cl.length) ((cl.getD j cE).cc)),(13,.int .i64 (i:Nat))]) zk (aS.eF () (by first|rfl|(simp only [a1,a5,Bool.not_true,Bool.not_false,Bool.true_or,Bool.false_or,Bool.true_and,Bool.false_and,Bool.or_true,Bool.or_false,Bool.and_true,Bool.and_false];done)|(simp [a1,a5];done)) a2))))
    ·exact En (cI (Dz (aS.pick [80,0,1,3,6,8,9,10,11,12,13] (S':=[(80,.bool false),(0,zP wp 0),(1,.int .i64 o),(3,.int .u64 v),(6,zP u 0),(8,.slice none 0 0),(9,.slice oa l.length oc),(10,.int .i64 (kl.length:Nat)),(11,.int .i64 ((j:Nat)+1)),(12,zL a0 0 ((cl.getD j cE).cl.length) ((cl.getD j cE).cc)),(13,.int .i64 (i:Nat))]) zk (aS.eF () (by first|rfl|(simp only [a1,Bool.not_true,Bool.not_false,Bool.true_or,Bool.false_or,Bool.true_and,Bool.false_and,Bool.or_true,Bool.or_false,Bool.and_true,Bool.and_false];done)|(simp [a1];done)) a2))))
   intro _ k5 c2
   refine Zt (eZ (t:=(((((((cl.getD j cE).cl).getD i nL).vw):Int) == v) && (decide (((((cl.getD j cE).cl).getD i nL).nm:Int) <= ((kl.getD (Int.toNat (o-1)) dB).toList.getD j 0)))) && (!xa.ra)) (λc3=>?_) (λc3=>?_))
   ·have c9:=(Bool.and_eq_true_iff.1 c3).1
    have h35aa:=(Bool.and_eq_true_iff.1 c9).1
    have h35ab:(decide (((((cl.getD j cE).cl).getD i nL).nm:Int) <= ((kl.getD (Int.toNat (o-1)) dB).toList.getD j 0)))=true:=(Bool.and_eq_true_iff.1 c9).2
    have e5:(!xa.ra)=true:=(Bool.and_eq_true_iff.1 c3).2
    refine dZ [8,9] (Hx 4 (i:Int) ((cl.getD j cE).cl.length:Int) a0 0 2 (Hg 6 (.gen [.int .u64 ((((cl.getD j cE).cl).getD i nL).nm)]) [.cell ⟨a0,0+(i*2)+1,none⟩ (.int .u64 ((((cl.getD j cE).cl).getD i nL).nm))] (bE (aC.cV (c2.rows 0 rfl F3.size nL) (k:=i) zo (j:=1) zb zk) aR) Hz)) (aL.bU rfl zk (t:=51) (e:=174) (n:=1) (ps:=[(0,.agg (bu.cells (⟨(j:Nat)+1,(((cl.getD j cE).cl).getD i nL).nm⟩:bu)))]) zk zk (ti:=Tryz.t174) (z:=.agg (bu.cells bG)) zk zk zb zb (cs:=bu.cells (⟨(j:Nat)+1,(((cl.getD j cE).cl).getD i nL).nm⟩:bu)) zk c2 λe6 e7 e8 e9=>?_)
    have f0:St w0 (Sl (sm e6) 1 174 2 bu.cells ([((⟨(j:Nat)+1,(((cl.getD j cE).cl).getD i nL).nm⟩:bu):bu)])::Sl (sm a0) ((cl.getD j cE).cc) 289 2 dY.cells ((cl.getD j cE).cl)::Sl oa oc 174 2 bu.cells l::aE cF (cl.eraseIdx j)::aB u (fF.cells xa) 68::aB lp (aQ.cells (RF n kn vb vc vl wb wc wl cb cc cl)) 214::Sl (sm vb) vc 209 4 aT.cells vl::aE cM vl::Sl (sm wb) wc 215 1 bD.ptr wl::aE cA wl::Sl (sm cb) cc 287 1 bT.cells cl::aB wp #[zL kb 0 kl.length kc,.slice aa al.length ac,zP lp 0] 35::Sl (sm kb) kc 50 11 aP.cells kl::L) e7:=St.iw (l:=[((⟨(j:Nat)+1,(((cl.getD j cE).cl).getD i nL).nm⟩:bu):bu)]) (f:=bu.cells) e8 e9 sF.size zf zk
    refine Lo (Dz (sD GP sF bG (f0.pl 2) zG λf2 f3 k7 f4=>Lo (cI (Lm (Lt (Dz (dE (eT 1 ((i:Nat)+1) Hz) ?_)))))))
    have f5:=((((((((((((f4.pl 12).pl 12).pl 12).pl 12).pl 12).pl 12).pl 12).pl 12).pl 12).pl 12).pl 10).pl 12).pl 12
    exact aS.back (i+1,some ⟨a0,0,none⟩,f2,f3,l++([((⟨(j:Nat)+1,(((cl.getD j cE).cl).getD i nL).nm⟩:bu):bu)])) [0,1,3,6,8,9,10,11,12,13] zk (by show(cl.getD j cE).cl.length-(i+1)<(cl.getD j cE).cl.length-i;omega) ⟨⟨za,a4.2.1,by simp only [List.length_append,List.length_cons,List.length_nil];omega,a4.2.2.2.app ⟨by dsimp only;omega,by have:=(hgc.2 _ (bJ (d:=nL) hk));dsimp only;omega⟩⟩,f5.dr 1⟩
   ·exact Zk (Zm (Zt (dE (eT 1 ((i:Nat)+1) Hz) (aS.back (i+1,some ⟨a0,0,none⟩,oa,oc,l) [0,1,3,6,8,9,10,11,12,13] zk (by show(cl.getD j cE).cl.length-(i+1)<(cl.getD j cE).cl.length-i;omega) ⟨⟨za,a4.2.1,(show l.length <= j*100+(i+1) by omega),a4.2.2.2⟩,c2⟩))))
  ·refine Zx (aS.eQ (aS.eR (aS.kI (Zm (Zt ?_)))))
   have f7:St w0 (Sl ((cl.getD j cE).ca) ((cl.getD j cE).cc) 289 2 dY.cells ((cl.getD j cE).cl)::Sl oa oc 174 2 bu.cells l::aE cF (cl.eraseIdx j)::aB u (fF.cells xa) 68::aB lp (aQ.cells (RF n kn vb vc vl wb wc wl cb cc cl)) 214::Sl (sm vb) vc 209 4 aT.cells vl::aE cM vl::Sl (sm wb) wc 215 1 bD.ptr wl::aE cA wl::Sl (sm cb) cc 287 1 bT.cells cl::aB wp #[zL kb 0 kl.length kc,.slice aa al.length ac,zP lp 0] 35::Sl (sm kb) kc 50 11 aP.cells kl::L) c1:=(by rw [<- hga,<- a4.2.1];exact b3)
   have f8:St w0 (cF (cl.getD j cE)::Sl oa oc 174 2 bu.cells l::aE cF (cl.eraseIdx j)::aB u (fF.cells xa) 68::aB lp (aQ.cells (RF n kn vb vc vl wb wc wl cb cc cl)) 214::Sl (sm vb) vc 209 4 aT.cells vl::aE cM vl::Sl (sm wb) wc 215 1 bD.ptr wl::aE cA wl::Sl (sm cb) cc 287 1 bT.cells cl::aB wp #[zL kb 0 kl.length kc,.slice aa al.length ac,zP lp 0] 35::Sl (sm kb) kc 50 11 aP.cells kl::L) c1:=Bd.close trivial f7
   have f9:=(f8.pl 2).pl 1
   have g0:St w0 (aE cF cl::Sl oa oc 174 2 bu.cells l::aB u (fF.cells xa) 68::aB lp (aQ.cells (RF n kn vb vc vl wb wc wl cb cc cl)) 214::Sl (sm vb) vc 209 4 aT.cells vl::aE cM vl::Sl (sm wb) wc 215 1 bD.ptr wl::aE cA wl::Sl (sm cb) cc 287 1 bT.cells cl::aB wp #[zL kb 0 kl.length kc,.slice aa al.length ac,zP lp 0] 35::Sl (sm kb) kc 50 11 aP.cells kl::L) c1:=aE.jK cE za f9
   exact dE (Hg 1 (.dH (.int .i64 ((j:Nat)+2)) (.gen [])) [.prop (Value.int .i64 (IntKind.i64.wrap (((j:Nat)+1)+1))=Value.int .i64 ((j:Nat)+2))] (aJ (ct za za za) aR) Hz) (aS.back (j+1,oa,oc,l) [0,1,3,6,8,9,10,11] zk (by show n.toNat+1-(j+1)<n.toNat+1-j;omega) ⟨⟨za,(show l.length <= (j+1)*100 by omega),a4.2.2.2⟩,((((((((((g0.pl 10).pl 10).pl 2).pl 10).pl 10).pl 10).pl 10).pl 10).pl 10).pl 10).pl 10⟩)
 ·refine Zx (aS.eQ (aS.eR (aS.kI (Zt (Zs (Zs (aX.join (T:=Unit) (E:=λ_=>[(99,.bool ((decide ((l.length:Int)>0)) || ((xa.ql.length:Int) == 0))),(6,zP u 0),(8,.slice none 0 0),(9,.slice oa l.length oc),(10,.int .i64 (kl.length:Nat))]) (F:=λ_ w=>St w0 (Sl oa oc 174 2 bu.cells l::aB u (fF.cells xa) 68::aB lp (aQ.cells (RF n kn vb vc vl wb wc wl cb cc cl)) 214::Sl (sm vb) vc 209 4 aT.cells vl::aE cM vl::Sl (sm wb) wc 215 1 bD.ptr wl::aE cA wl::Sl (sm cb) cc 287 1 bT.cells cl::aE cF cl::aB wp #[zL kb 0 kl.length kc,.slice aa al.length ac,zP lp 0] 35::Sl (sm kb) kc 50 11 aP.cells kl::L) w) ?_ ?_)))))))
  ·refine Zg [] (Zr 0 4 [] (iy 94 (decide ((l.length:Int)>0)) (λa6=>?_) (λa6=>?_)))
   ·exact En (cI (Dz (aS.pick [99,6,8,9,10] (S':=[(99,.bool true),(6,zP u 0),(8,.slice none 0 0),(9,.slice oa l.length oc),(10,.int .i64 (kl.length:Nat))]) zk (aS.eF () (by first|rfl|(simp only [a6,Bool.not_true,Bool.not_false,Bool.true_or,Bool.false_or,Bool.true_and,Bool.false_and,Bool.or_true,Bool.or_false,Bool.and_true,Bool.and_false];done)|(simp [a6];done)) a3))))
   ·exact kV (Hl 5 1 10 a3 Hz) (aS.pick [99,6,8,9,10] (S':=[(99,.bool ((xa.ql.length:Int) == 0)),(6,zP u 0),(8,.slice none 0 0),(9,.slice oa l.length oc),(10,.int .i64 (kl.length:Nat))]) zk (aS.eF () (by first|rfl|(simp only [a6,Bool.not_true,Bool.not_false,Bool.true_or,Bool.false_or,Bool.true_and,Bool.false_and,Bool.or_true,Bool.or_false,Bool.and_true,Bool.and_false];done)|(simp [a6];done)) a3))
  intro _ h1 d1
  refine Zt (eZ (t:=(decide ((l.length:Int)>0)) || ((xa.ql.length:Int) == 0)) (λc4=>?_) (λc4=>?_))
  ·refine En (Lq (Le (Ly (Dz (bY (v:=.slice oa l.length oc) ?_)))))
   have h2:=((((((d1.pl 8).pl 8).pl 8).pl 8).pl 8).pl 8).pl 8
   have h3:St w0 (LS lp t (RF n kn vb vc vl wb wc wl cb cc cl)::Sl oa oc 174 2 bu.cells l::aB u (fF.cells xa) 68::aB wp #[zL kb 0 kl.length kc,.slice aa al.length ac,zP lp 0] 35::Sl (sm kb) kc 50 11 aP.cells kl::L) h1:=Bd.close hI h2
   have h4:=((((h3.pl 1).pl 1).pl 4).pl 4).pl 4
   exact⟨oa,oc,l,rfl,za,(by first|exact b4.2.2|exact hp.2.2),h4.dr 1⟩
  ·have h6:=(Bool.or_eq_false_iff.1 c4).1
   have k8:=of_decide_eq_false h6
   have h7:=(Bool.or_eq_false_iff.1 c4).2
   have k9:=lf h7
   refine En (Lk (Lt (Ls (Lq (Lb (Dz (aX.loop (T:=Nat×(Option Addr)×Nat×(List bu)) (λgg=>[(6,zP u 0),(8,.slice none 0 0),(9,.slice gg.2.1 gg.2.2.2.length gg.2.2.1),(10,.int .i64 (kl.length:Nat)),(14,.int .i64 ((gg.1:Nat)+1))]) (λgg w=>((gg.1:Int) <= n /\ gg.2.2.2.length <= 1200+gg.1 /\ Ok gg.2.2.2) /\ St w0 (Sl gg.2.1 gg.2.2.1 174 2 bu.cells gg.2.2.2::aB u (fF.cells xa) 68::aB lp (aQ.cells (RF n kn vb vc vl wb wc wl cb cc cl)) 214::Sl (sm vb) vc 209 4 aT.cells vl::aE cM vl::Sl (sm wb) wc 215 1 bD.ptr wl::aE cA wl::Sl (sm cb) cc 287 1 bT.cells cl::aE cF cl::aB wp #[zL kb 0 kl.length kc,.slice aa al.length ac,zP lp 0] 35::Sl (sm kb) kc 50 11 aP.cells kl::L) w) (λgg=>n.toNat+1-gg.1) (0,oa,oc,l) [6,8,9,10,14] zk ⟨⟨(show((0:Nat):Int) <= n by omega),(show l.length <= 1200+0 by omega),hp.2.2⟩,d1⟩ ?_)))))))
   rintro⟨i,oa,oc,l⟩ l0 ⟨b4,b5⟩
   dsimp only at b4 b5
   refine Zs (Zs (aX.join (T:=Unit) (E:=λ_=>[(110,.bool ((decide (((i:Nat)+1:Int) <= (kl.length:Nat))) && (decide (((i:Nat)+1:Int) <= (xa.ql.length:Nat))))),(6,zP u 0),(8,.slice none 0 0),(9,.slice oa l.length oc),(10,.int .i64 (kl.length:Nat)),(14,.int .i64 ((i:Nat)+1))]) (F:=λ_ w=>St w0 (Sl oa oc 174 2 bu.cells l::aB u (fF.cells xa) 68::aB lp (aQ.cells (RF n kn vb vc vl wb wc wl cb cc cl)) 214::Sl (sm vb) vc 209 4 aT.cells vl::aE cM vl::Sl (sm wb) wc 215 1 bD.ptr wl::aE cA wl::Sl (sm cb) cc 287 1 bT.cells cl::aE cF cl::aB wp #[zL kb 0 kl.length kc,.slice aa al.length ac,zP lp 0] 35::Sl (sm kb) kc 50 11 aP.cells kl::L) w) ?_ ?_))
   ·refine Zg [] (Zr 0 4 [] (iy 104 (decide (((i:Nat)+1:Int) <= (kl.length:Nat))) (λa9=>?_) (λa9=>?_)))
    ·exact kV (Hl 6 1 10 b5 Hz) (lM [110,6,8,9,10,14] () (decide (((i:Nat)+1:Int) <= (xa.ql.length:Nat))) (by first|rfl|simp [Hb,a9]) b5)
    ·exact En (cI (Dz (lM [110,6,8,9,10,14] () false (by first|rfl|simp [Hb,a9]) b5)))
   intro _ h9 b0
   refine Zt (eZ (t:=(decide (((i:Nat)+1:Int) <= (kl.length:Nat))) && (decide (((i:Nat)+1:Int) <= (xa.ql.length:Nat)))) (λc5=>?_) (λc5=>?_))
   ·have i0:=(Bool.and_eq_true_iff.1 c5).1
    have l1:=of_decide_eq_true i0
    have i1:=(Bool.and_eq_true_iff.1 c5).2
    have l2:=of_decide_eq_true i1
    have hk:i<xa.ql.length:=za
    have l3:=ha.q _ (bJ (d:=(0:Int)) hk)
    obtain⟨b1,b2,d2⟩:=aC.isSome (hr _ (b0.drop 11)) za
    have i2:∀ w,St w0 L w -> aC w (some ⟨b1,b2,none⟩) xa.ql.length 1 (λq=>aD (xa.ql.getD q 0)):=by rw [<- d2];exact hr
    refine Zk (Zt (Zs (Zb (dZ [12,13] (Hg 3 (.gen [zL b1 b2 xa.ql.length xa.qc]) [.cell ⟨u,10,none⟩ (zL b1 b2 xa.ql.length xa.qc)] (bE (Bp d2 (b0.cell 1 rfl zk)) aR) (Hg 5 (.dH (.int .i64 (i:Nat)) (.gen [])) [.prop (Value.int .i64 (IntKind.i64.wrap (((i:Nat)+1)-1))=Value.int .i64 (i:Nat))] (aJ (ct za za za) aR) (Hx 6 (i:Int) (xa.ql.length:Int) b1 b2 1 (Hg 7 (.gen [.int .u8 (xa.ql.getD i 0)]) [.cell ⟨b1,b2+(i*1),none⟩ (.int .u8 (xa.ql.getD i 0))] (bE (aC.cV (i2 _ (b0.drop 11)) (k:=i) zo (j:=0) zb zk) aR) (Hg 8 (.div ((xa.ql.getD i 0) % 8)) [.prop (IntKind.u8=IntKind.u8 /\ (8:Int)≠0 /\ Int.tmod (xa.ql.getD i 0) 8=(xa.ql.getD i 0) % 8)] (aJ ⟨rfl,zb,Int.tmod_eq_emod_of_nonneg (by first|omega|exact Int.natCast_nonneg _)⟩ aR) (Cz 9 ((xa.ql.getD i 0) % 8) (Cz 10 (1+((xa.ql.getD i 0) % 8)) Hz))))))) (aL.bU rfl zk (t:=51) (e:=174) (n:=1) (ps:=[(0,.agg (bu.cells (⟨(i:Nat)+1,1+((xa.ql.getD i 0) % 8)⟩:bu)))]) zk zk (ti:=Tryz.t174) (z:=.agg (bu.cells bG)) zk zk zb zb (cs:=bu.cells (⟨(i:Nat)+1,1+((xa.ql.getD i 0) % 8)⟩:bu)) zk b0 λi3 i4 i5 i6=>?_)))))
    have i7:St w0 (Sl (sm i3) 1 174 2 bu.cells ([((⟨(i:Nat)+1,1+((xa.ql.getD i 0) % 8)⟩:bu):bu)])::Sl oa oc 174 2 bu.cells l::aB u (fF.cells xa) 68::aB lp (aQ.cells (RF n kn vb vc vl wb wc wl cb cc cl)) 214::Sl (sm vb) vc 209 4 aT.cells vl::aE cM vl::Sl (sm wb) wc 215 1 bD.ptr wl::aE cA wl::Sl (sm cb) cc 287 1 bT.cells cl::aE cF cl::aB wp #[zL kb 0 kl.length kc,.slice aa al.length ac,zP lp 0] 35::Sl (sm kb) kc 50 11 aP.cells kl::L) i4:=St.iw (l:=[((⟨(i:Nat)+1,1+((xa.ql.getD i 0) % 8)⟩:bu):bu)]) (f:=bu.cells) i5 i6 sF.size zf zk
    refine Lo (Dz (sD GP sF bG (i7.pl 1) zG λi9 j0 l4 j1=>Lo (cI (Lm (Lt (Dz (dE (Hg 1 (.dH (.int .i64 ((i:Nat)+2)) (.gen [])) [.prop (Value.int .i64 (IntKind.i64.wrap (((i:Nat)+1)+1))=Value.int .i64 ((i:Nat)+2))] (aJ (ct za za za) aR) Hz) ?_)))))))
    have j2:=(((((((((((j1.pl 11).pl 11).pl 11).pl 11).pl 11).pl 11).pl 11).pl 11).pl 11).pl 11).pl 10).pl 11
    exact aS.back (i+1,i9,j0,l++([((⟨(i:Nat)+1,1+((xa.ql.getD i 0) % 8)⟩:bu):bu)])) [6,8,9,10,14] zk (by show n.toNat+1-(i+1)<n.toNat+1-i;omega) ⟨⟨za,by simp only [List.length_append,List.length_cons,List.length_nil];omega,b4.2.2.app ⟨by dsimp only;omega,by have:=ha.q _ (bJ (d:=(0:Int)) hk);dsimp only;omega⟩⟩,j2.dr 1⟩
   ·refine En (Lx (mM (mN (Lh (Lt (Lq (Le (Dz (bY (v:=.slice oa l.length oc) ?_)))))))))
    have j4:=((((((b0.pl 8).pl 8).pl 8).pl 8).pl 8).pl 8).pl 8
    have j5:St w0 (LS lp t (RF n kn vb vc vl wb wc wl cb cc cl)::Sl oa oc 174 2 bu.cells l::aB u (fF.cells xa) 68::aB wp #[zL kb 0 kl.length kc,.slice aa al.length ac,zP lp 0] 35::Sl (sm kb) kc 50 11 aP.cells kl::L) h9:=Bd.close hI j4
    have j6:=((((j5.pl 1).pl 1).pl 4).pl 4).pl 4
    exact⟨oa,oc,l,rfl,za,(by first|exact b4.2.2|exact hp.2.2),j6.dr 1⟩
end
section
variable {w0 w : World} {L : List bA}
theorem wrap64 (z:Int):0 <= IntKind.u64.wrap z /\ IntKind.u64.wrap z <= 18446744073709551615:=by
 show 0 <= z % 18446744073709551616 /\ z % 18446744073709551616 <= 18446744073709551615
 omega
theorem Ro {k:Int}(h:0 <= k /\ k <= 255):∀ z∈(#v[k,0,0,0,0,0,0,0,0,0,0,0,0,0,0,0,0,0,0,0,0,0,0,0,0,0,0,0,0,0,0,0]:bW).toList,0 <= z /\ z<256:=by
 intro z hz
 have e:(#v[k,0,0,0,0,0,0,0,0,0,0,0,0,0,0,0,0,0,0,0,0,0,0,0,0,0,0,0,0,0,0,0]:bW).toList=k::List.replicate 31 0:=rfl
 rw [e] at hz
 rcases List.mem_cons.1 hz with rfl|hz
 ·omega
 ·have:=List.eq_of_mem_replicate hz
  omega
set_option maxHeartbeats 4000000 in
theorem sx {wp:Nat}{ka:Option Addr}{kc:Nat}{kl:List aP}{aa:Option Addr}{ac:Nat}{al:List aK}{lp:Nat} o (xa:fF) t (x:aQ) (ho:1 <= o /\ o <= x.n) (hkl:(kl.length:Int)=x.n) (ha:Gb xa) (hxq:xa.ql.length <= 1000) (ht:t <= 90) (hr:Rw w0 L aD 1 0 xa.qa xa.ql) (hs:St w0 (aB wp #[.slice ka kl.length kc,.slice aa al.length ac,zP lp 0] 35::Sl ka kc 50 11 aP.cells kl::LS lp t x::L) w):Cs Tryz.prog 55 #[zP wp 0,.int .i64 o,.agg (fF.cells xa)] w λrv w'=>∃ bb2,rv=.agg (aH.cells bb2) /\ iK bb2 /\ St w0 (aB wp #[.slice ka kl.length kc,.slice aa al.length ac,zP lp 0] 35::Sl ka kc 50 11 aP.cells kl::LS lp t x::Sl bb2.qa bb2.qc 174 2 bu.cells bb2.ql::L) w':=by
 have g1:=ha.wh
 have g2:=ha.ot
 have g3:=ha.kd
 have g4:=ha.vw
 have g5:=ha.k
 have g6:=ha.ci
 have g7:=ha.tm
 refine dF Tryz.func55 Tryz.ntmps55 (En (Ls (Lg [0,1] (Dz (mT (fF.cells xa) hs λb1 w2 f3=>Lo (Dz (tW (aH.cells qx) f3 λb4 w5 b2=>Lo (Ld (Lt (Ls (Dz (dZ [14,15] (Hl 1 1 4 b2 (Hg 2 (.div (xa.kd % 6)) [.prop (IntKind.u8=IntKind.u8 /\ (6:Int)≠0 /\ Int.tmod xa.kd 6=xa.kd % 6)] (aJ ⟨rfl,zb,Int.tmod_eq_emod_of_nonneg (by first|omega|exact Int.natCast_nonneg _)⟩ aR) (PO 3 (1+(xa.kd % 6)) (Hl 5 1 5 b2 (Hg 6 (.div (xa.vw % 6)) [.prop (IntKind.u8=IntKind.u8 /\ (6:Int)≠0 /\ Int.tmod xa.vw 6=xa.vw % 6)] (aJ ⟨rfl,zb,Int.tmod_eq_emod_of_nonneg (by first|omega|exact Int.natCast_nonneg _)⟩ aR) (Cz 7 (xa.vw % 6) (Hl 9 1 6 b2 (Hg 10 (.div (xa.k % 6)) [.prop (IntKind.u8=IntKind.u8 /\ (6:Int)≠0 /\ Int.tmod xa.k 6=xa.k % 6)] (aJ ⟨rfl,zb,Int.tmod_eq_emod_of_nonneg (by first|omega|exact Int.natCast_nonneg _)⟩ aR) (Cz 11 (xa.k % 6) (Cz 12 (1+(xa.k % 6)) Hz)))))))))) (tW (aH.cells qx) b2 λu w8 f4=>Lo (Dz (Zu 0 0 (aH.cells (⟨1+(xa.kd % 6),xa.vw % 6,1+(xa.k % 6),cP,none,0,[],aI⟩:aH)) f4 λp9 f5=>Lo (Ld (Lt (Ls (Lg [2] (Lw (Zc (yt o t x ho ((f5.pl 5).pl 4)) ?_)))))))))))))))))))))
 rintro q0 e0 ⟨a0,rfl,r0,a1⟩
 refine Lz (Ls (Ls (Dz (dE (Hl 1 2 0 a1 Hz) (Zt (aX.join (T:=aH) (E:=λgg=>[(6,zP b4 0),(7,zP u 0)]) (F:=λgg w=>(iK gg) /\ St w0 (aB u (aH.cells gg) 53::Sl gg.qa gg.qc 174 2 bu.cells gg.ql::aB b4 (aH.cells qx) 53::aB wp #[.slice ka kl.length kc,.slice aa al.length ac,zP lp 0] 35::Sl ka kc 50 11 aP.cells kl::LS lp t x::L) w) ?_ ?_))))))
 ·refine En (Lb (Lq (Dz (eZ (t:=((1+(xa.kd % 6)):Int) == 1) (λc0=>?_) (λc0=>?_)))))
  ·refine En (Ls (Lg [1] (Lw (Zu 2 2 (aH.cells (⟨1+(xa.kd % 6),xa.vw % 6,0,cP,none,0,[],aI⟩:aH)) a1 λr4 e1=>Lo (Ld (Lt (Ls (Dz (dZ [1,3] (hP 0 4 0 12 (fF.cells xa) e1 Hz) (Zc (DH xa ha e1) ?_))))))))))
   rintro r5 r6 ⟨a5,rfl,e2,f8⟩
   refine Lo (Lw (Zu 2 3 (aH.cells (⟨1+(xa.kd % 6),xa.vw % 6,0,a5,none,0,[],aI⟩:aH)) f8 λf9 c1=>Lo (Ld (Lt (Ls (Dz (dE (Hl 1 4 3 c1 Hz) (Zt (eZ (t:=!xa.ra) (λc2=>?_) (λc2=>?_))))))))))
   ·refine En (Lg [2] (Lw (Zu 2 1 (aH.cells (⟨1+(xa.kd % 6),a0,0,a5,none,0,[],aI⟩:aH)) c1 λg9 h1=>Lo (Ld (Lm (Dz ?_))))))
    have h2:=St.eB h1 174 2 bu.cells
    have h3:=((((((h2.pl 2).pl 6).pl 3).pl 5).pl 4).pl 5).pl 6
    have h4:=h3.dr 1
    have h5:St w0 (aB u (aH.cells (⟨1+(xa.kd % 6),a0,0,a5,none,0,[],aI⟩:aH)) 53::Sl none 0 174 2 bu.cells ([]:List bu)::aB b4 (aH.cells qx) 53::aB wp #[.slice ka kl.length kc,.slice aa al.length ac,zP lp 0] 35::Sl ka kc 50 11 aP.cells kl::LS lp t x::L) g9:=h4
    exact vB [6,7] (⟨1+(xa.kd % 6),a0,0,a5,none,0,[],aI⟩:aH) ⟨⟨by dsimp only;omega,by dsimp only;first|omega|exact wrap64 _,by dsimp only;omega,e2,(λp hp=>absurd hp List.not_mem_nil),du,(by show([]:List bu).length <= _;exact Nat.zero_le _)⟩,h5⟩
   ·refine Zk (Zm ?_)
    have h6:=St.eB c1 174 2 bu.cells
    have h7:=((((((h6.pl 2).pl 6).pl 3).pl 5).pl 4).pl 5).pl 6
    have h8:=h7.dr 1
    have h9:St w0 (aB u (aH.cells (⟨1+(xa.kd % 6),xa.vw % 6,0,a5,none,0,[],aI⟩:aH)) 53::Sl none 0 174 2 bu.cells ([]:List bu)::aB b4 (aH.cells qx) 53::aB wp #[.slice ka kl.length kc,.slice aa al.length ac,zP lp 0] 35::Sl ka kc 50 11 aP.cells kl::LS lp t x::L) f9:=h8
    exact vB [6,7] (⟨1+(xa.kd % 6),xa.vw % 6,0,a5,none,0,[],aI⟩:aH) ⟨⟨by dsimp only;omega,by dsimp only;first|omega|exact wrap64 _,by dsimp only;omega,e2,(λp hp=>absurd hp List.not_mem_nil),du,(by show([]:List bu).length <= _;exact Nat.zero_le _)⟩,h9⟩
  ·refine En (Lq (Dz (eZ (t:=((1+(xa.kd % 6)):Int) == 2) (λc3=>?_) (λc3=>?_))))
   ·refine Zs (dE (Hl 1 4 3 a1 Hz) (Zt (eZ (t:=!xa.ra) (λc4=>?_) (λc4=>?_))))
    ·refine En (Ls (Lg [2] (Lw (Zu 2 1 (aH.cells (⟨1+(xa.kd % 6),a0,1+(xa.k % 6),cP,none,0,[],aI⟩:aH)) a1 λc5 i2=>Lo (Ld (Lt (Ls (Dz ?_))))))))
     obtain⟨n,kn,va,vc,vl,wa,wc,wl,ca,cc,cl⟩:=x
     obtain⟨hI0,i3⟩:=Bd.open (i2.pull 1 rfl)
     have hI:Inv t n vl wl cl:=hI0
     have b3:St w0 (aB lp (aQ.cells (⟨n,kn,va,vc,vl,wa,wc,wl,ca,cc,cl⟩:aQ)) 214::Sl va vc 209 4 aT.cells vl::aE cM vl::Sl wa wc 215 1 bD.ptr wl::aE cA wl::Sl ca cc 287 1 bT.cells cl::aE cF cl::aB wp #[.slice ka kl.length kc,.slice aa al.length ac,zP lp 0] 35::aB u (aH.cells (⟨1+(xa.kd % 6),a0,1+(xa.k % 6),cP,none,0,[],aI⟩:aH)) 53::aB b4 (aH.cells qx) 53::aB b1 (fF.cells xa) 68::Sl ka kc 50 11 aP.cells kl::L) c5:=i3
     have hn:3 <= n /\ n <= 11:=⟨hI.n3,hI.Jw⟩
     have hwl:=hI.hw
     have hcl:=hI.hc
     have hvt:=hI.hv
     have hvl:0<vl.length:=by obtain⟨z,hz,-⟩:=hI.h0;exact List.length_pos_of_mem hz
     obtain⟨vb,rfl⟩:=Sl.isSome (b3.at_ 1 rfl) za
     obtain⟨wb,rfl⟩:=Sl.isSome (b3.at_ 3 rfl) za
     obtain⟨cb,rfl⟩:=Sl.isSome (b3.at_ 5 rfl) za
     have r7:1 <= o /\ o <= n:=ho
     have hpo:=hI.iT (o:=Int.toNat (o-1)) za
     have i4:=b3.pl 4
     have i5:St w0 (cA (wq wl (o-1))::aE cA (wl.eraseIdx (Int.toNat (o-1)))::aB lp (aQ.cells (RF n kn vb vc vl wb wc wl cb cc cl)) 214::Sl (sm vb) vc 209 4 aT.cells vl::aE cM vl::Sl (sm wb) wc 215 1 bD.ptr wl::Sl (sm cb) cc 287 1 bT.cells cl::aE cF cl::aB wp #[.slice ka kl.length kc,.slice aa al.length ac,zP lp 0] 35::aB u (aH.cells (⟨1+(xa.kd % 6),a0,1+(xa.k % 6),cP,none,0,[],aI⟩:aH)) 53::aB b4 (aH.cells qx) 53::aB b1 (fF.cells xa) 68::Sl ka kc 50 11 aP.cells kl::L) c5:=aE.take bM za i4
     have b5:St w0 (PS ((wq wl (o-1)).b) ((wq wl (o-1)).x)::aE cA (wl.eraseIdx (Int.toNat (o-1)))::aB lp (aQ.cells (RF n kn vb vc vl wb wc wl cb cc cl)) 214::Sl (sm vb) vc 209 4 aT.cells vl::aE cM vl::Sl (sm wb) wc 215 1 bD.ptr wl::Sl (sm cb) cc 287 1 bT.cells cl::aE cF cl::aB wp #[.slice ka kl.length kc,.slice aa al.length ac,zP lp 0] 35::aB u (aH.cells (⟨1+(xa.kd % 6),a0,1+(xa.k % 6),cP,none,0,[],aI⟩:aH)) 53::aB b4 (aH.cells qx) 53::aB b1 (fF.cells xa) 68::Sl ka kc 50 11 aP.cells kl::L) c5:=i5
     refine dZ [12] (Hl 3 8 2 b5 (Hl 6 2 13 b5 (eT 8 (o-1) (Hx 9 ((o-1):Int) (wl.length:Int) wb 0 1 (Hg 10 (.gen [zP ((wq wl (o-1)).b) 0]) [.cell ⟨wb,0+((Int.toNat (o-1))*1),none⟩ (zP ((wq wl (o-1)).b) 0)] (bE (aC.cV (b5.rows 5 rfl F4.size bM) (k:=Int.toNat (o-1)) zo (j:=0) zb zk) aR) Hz))))) (Zc (yp ((wq wl (o-1)).x) a0 (λy hy=>by have:=(hpo.2 y hy).lt hI.hs;omega) b5) ?_)
     rintro r8 c6 ⟨a9,r9,rfl,s0,i6⟩
     refine Lz (Dz ?_)
     have i7:St w0 (cA (wq wl (o-1))::aE cA (wl.eraseIdx (Int.toNat (o-1)))::aB lp (aQ.cells (RF n kn vb vc vl wb wc wl cb cc cl)) 214::Sl (sm vb) vc 209 4 aT.cells vl::aE cM vl::Sl (sm wb) wc 215 1 bD.ptr wl::Sl (sm cb) cc 287 1 bT.cells cl::aE cF cl::aB wp #[.slice ka kl.length kc,.slice aa al.length ac,zP lp 0] 35::aB u (aH.cells (⟨1+(xa.kd % 6),a0,1+(xa.k % 6),cP,none,0,[],aI⟩:aH)) 53::aB b4 (aH.cells qx) 53::aB b1 (fF.cells xa) 68::Sl ka kc 50 11 aP.cells kl::L) c6:=i6
     have i8:St w0 (aE cA wl::aB lp (aQ.cells (RF n kn vb vc vl wb wc wl cb cc cl)) 214::Sl (sm vb) vc 209 4 aT.cells vl::aE cM vl::Sl (sm wb) wc 215 1 bD.ptr wl::Sl (sm cb) cc 287 1 bT.cells cl::aE cF cl::aB wp #[.slice ka kl.length kc,.slice aa al.length ac,zP lp 0] 35::aB u (aH.cells (⟨1+(xa.kd % 6),a0,1+(xa.k % 6),cP,none,0,[],aI⟩:aH)) 53::aB b4 (aH.cells qx) 53::aB b1 (fF.cells xa) 68::Sl ka kc 50 11 aP.cells kl::L) c6:=aE.jK bM za i7
     have i9:=((((((i8.pl 6).pl 6).pl 2).pl 6).pl 6).pl 6).pl 6
     have j0:St w0 (LS lp t (RF n kn vb vc vl wb wc wl cb cc cl)::aB wp #[.slice ka kl.length kc,.slice aa al.length ac,zP lp 0] 35::aB u (aH.cells (⟨1+(xa.kd % 6),a0,1+(xa.k % 6),cP,none,0,[],aI⟩:aH)) 53::aB b4 (aH.cells qx) 53::aB b1 (fF.cells xa) 68::Sl ka kc 50 11 aP.cells kl::L) c6:=Bd.close hI i9
     refine dZ [4] (Cz 1 a9 (Cz 2 (a9+1) Hz)) (Zu 2 2 (aH.cells (⟨1+(xa.kd % 6),a0,a9+1,cP,none,0,[],aI⟩:aH)) j0 λj1 j2=>Lo (Ld (Lm (Dz ?_))))
     have j3:=St.eB j2 174 2 bu.cells
     have j4:=((((((j3.pl 1).pl 6).pl 3).pl 5).pl 4).pl 5).pl 6
     have j5:=j4.dr 1
     have j6:St w0 (aB u (aH.cells (⟨1+(xa.kd % 6),a0,a9+1,cP,none,0,[],aI⟩:aH)) 53::Sl none 0 174 2 bu.cells ([]:List bu)::aB b4 (aH.cells qx) 53::aB wp #[.slice ka kl.length kc,.slice aa al.length ac,zP lp 0] 35::Sl ka kc 50 11 aP.cells kl::LS lp t (RF n kn vb vc vl wb wc wl cb cc cl)::L) j1:=j5
     exact vB [6,7] (⟨1+(xa.kd % 6),a0,a9+1,cP,none,0,[],aI⟩:aH) ⟨⟨by dsimp only;omega,by dsimp only;first|omega|exact wrap64 _,by dsimp only;omega,fZ,(λp hp=>absurd hp List.not_mem_nil),du,(by show([]:List bu).length <= _;exact Nat.zero_le _)⟩,j6⟩
    ·refine Zk (Zm ?_)
     have j7:=St.eB a1 174 2 bu.cells
     have j8:=((((((j7.pl 2).pl 6).pl 3).pl 5).pl 4).pl 5).pl 6
     have j9:=j8.dr 1
     have k0:St w0 (aB u (aH.cells (⟨1+(xa.kd % 6),xa.vw % 6,1+(xa.k % 6),cP,none,0,[],aI⟩:aH)) 53::Sl none 0 174 2 bu.cells ([]:List bu)::aB b4 (aH.cells qx) 53::aB wp #[.slice ka kl.length kc,.slice aa al.length ac,zP lp 0] 35::Sl ka kc 50 11 aP.cells kl::LS lp t x::L) e0:=j9
     exact vB [6,7] (⟨1+(xa.kd % 6),xa.vw % 6,1+(xa.k % 6),cP,none,0,[],aI⟩:aH) ⟨⟨by dsimp only;omega,by dsimp only;first|omega|exact wrap64 _,by dsimp only;omega,fZ,(λp hp=>absurd hp List.not_mem_nil),du,(by show([]:List bu).length <= _;exact Nat.zero_le _)⟩,k0⟩
   ·refine En (Lq (Dz (eZ (t:=((1+(xa.kd % 6)):Int) == 3) (λc7=>?_) (λc7=>?_))))
    ·refine En (Ls (Lg [1] (Lw (Zu 2 2 (aH.cells (⟨1+(xa.kd % 6),xa.vw % 6,0,cP,none,0,[],aI⟩:aH)) a1 λk2 b6=>Lo (Ld (Lt (Ls (Dz (dE (Hl 1 4 3 b6 Hz) (Zt (eZ (t:=!xa.ra) (λc9=>?_) (λc9=>?_))))))))))))
     ·refine dZ [8] (Hl 3 4 5 b6 (Hg 4 (.div (xa.vw % 2)) [.prop (IntKind.u8=IntKind.u8 /\ (2:Int)≠0 /\ Int.tmod xa.vw 2=xa.vw % 2)] (aJ ⟨rfl,zb,Int.tmod_eq_emod_of_nonneg (by first|omega|exact Int.natCast_nonneg _)⟩ aR) (Cz 5 (xa.vw % 2) Hz))) (Zu 2 1 (aH.cells (⟨1+(xa.kd % 6),IntKind.u64.wrap ((IntKind.u64.wrap (a0+1))+(xa.vw % 2)),0,cP,none,0,[],aI⟩:aH)) b6 λk4 k5=>Lo (Ld (Lm (Dz ?_))))
      have k6:=St.eB k5 174 2 bu.cells
      have k7:=((((((k6.pl 2).pl 6).pl 3).pl 5).pl 4).pl 5).pl 6
      have k8:=k7.dr 1
      have k9:St w0 (aB u (aH.cells (⟨1+(xa.kd % 6),IntKind.u64.wrap ((IntKind.u64.wrap (a0+1))+(xa.vw % 2)),0,cP,none,0,[],aI⟩:aH)) 53::Sl none 0 174 2 bu.cells ([]:List bu)::aB b4 (aH.cells qx) 53::aB wp #[.slice ka kl.length kc,.slice aa al.length ac,zP lp 0] 35::Sl ka kc 50 11 aP.cells kl::LS lp t x::L) k4:=k8
      exact vB [6,7] (⟨1+(xa.kd % 6),IntKind.u64.wrap ((IntKind.u64.wrap (a0+1))+(xa.vw % 2)),0,cP,none,0,[],aI⟩:aH) ⟨⟨by dsimp only;omega,by dsimp only;first|omega|exact wrap64 _,by dsimp only;omega,fZ,(λp hp=>absurd hp List.not_mem_nil),du,(by show([]:List bu).length <= _;exact Nat.zero_le _)⟩,k9⟩
     ·refine Zk (Zm ?_)
      have l0:=St.eB b6 174 2 bu.cells
      have l1:=((((((l0.pl 2).pl 6).pl 3).pl 5).pl 4).pl 5).pl 6
      have l2:=l1.dr 1
      have l3:St w0 (aB u (aH.cells (⟨1+(xa.kd % 6),xa.vw % 6,0,cP,none,0,[],aI⟩:aH)) 53::Sl none 0 174 2 bu.cells ([]:List bu)::aB b4 (aH.cells qx) 53::aB wp #[.slice ka kl.length kc,.slice aa al.length ac,zP lp 0] 35::Sl ka kc 50 11 aP.cells kl::LS lp t x::L) k2:=l2
      exact vB [6,7] (⟨1+(xa.kd % 6),xa.vw % 6,0,cP,none,0,[],aI⟩:aH) ⟨⟨by dsimp only;omega,by dsimp only;first|omega|exact wrap64 _,by dsimp only;omega,fZ,(λp hp=>absurd hp List.not_mem_nil),du,(by show([]:List bu).length <= _;exact Nat.zero_le _)⟩,l3⟩
    ·refine En (Lq (Dz (eZ (t:=((1+(xa.kd % 6)):Int) == 4) (λd1=>?_) (λd1=>?_))))
     ·refine En (Ls (Lg [1] (Lw (Zu 2 2 (aH.cells (⟨1+(xa.kd % 6),xa.vw % 6,0,cP,none,0,[],aI⟩:aH)) a1 λs1 e3=>Lo (Ld (Lt (Ls (Dz (dZ [4,6] (hP 2 4 0 12 (fF.cells xa) e3 Hz) (Zc (Jk o xa a0 t x ho hkl ha zc zc (λw h=>hr _ (h.drop 3)) (((e3.pl 1).pl 5).pl 2)) ?_))))))))))
      rintro s2 s3 ⟨a2,a3,a4,rfl,e4,e5,l6⟩
      refine Lo (Lw (Zu 4 43 (aH.cells (⟨1+(xa.kd % 6),xa.vw % 6,0,cP,a2,a3,a4,aI⟩:aH)) l6 λl7 d2=>Lo (Ld (Lt (Ls (Dz (dE (Hl 1 6 3 d2 Hz) (Zt (eZ (t:=!xa.ra) (λd3=>?_) (λd3=>?_))))))))))
      ·refine En (Lg [2] (Lw (Zu 4 1 (aH.cells (⟨1+(xa.kd % 6),a0,0,cP,a2,a3,a4,aI⟩:aH)) d2 λl9 m0=>Lo (Ld (Lm (Dz ?_))))))
       have m1:=((((((m0.pl 2).pl 2).pl 2).pl 5).pl 4).pl 5).pl 6
       have m2:=m1.dr 1
       have m3:St w0 (aB u (aH.cells (⟨1+(xa.kd % 6),a0,0,cP,a2,a3,a4,aI⟩:aH)) 53::Sl a2 a3 174 2 bu.cells a4::aB b4 (aH.cells qx) 53::aB wp #[.slice ka kl.length kc,.slice aa al.length ac,zP lp 0] 35::Sl ka kc 50 11 aP.cells kl::LS lp t x::L) l9:=m2
       exact vB [6,7] (⟨1+(xa.kd % 6),a0,0,cP,a2,a3,a4,aI⟩:aH) ⟨⟨by dsimp only;omega,by dsimp only;first|omega|exact wrap64 _,by dsimp only;omega,fZ,e5,du,(by have:=e4;dsimp only;omega)⟩,m3⟩
      ·refine Zk (Zm ?_)
       have m4:=((((((d2.pl 2).pl 2).pl 2).pl 5).pl 4).pl 5).pl 6
       have m5:=m4.dr 1
       have m6:St w0 (aB u (aH.cells (⟨1+(xa.kd % 6),xa.vw % 6,0,cP,a2,a3,a4,aI⟩:aH)) 53::Sl a2 a3 174 2 bu.cells a4::aB b4 (aH.cells qx) 53::aB wp #[.slice ka kl.length kc,.slice aa al.length ac,zP lp 0] 35::Sl ka kc 50 11 aP.cells kl::LS lp t x::L) l7:=m5
       exact vB [6,7] (⟨1+(xa.kd % 6),xa.vw % 6,0,cP,a2,a3,a4,aI⟩:aH) ⟨⟨by dsimp only;omega,by dsimp only;first|omega|exact wrap64 _,by dsimp only;omega,fZ,e5,du,(by have:=e4;dsimp only;omega)⟩,m6⟩
     ·refine En (Lq (Dz (eZ (t:=((1+(xa.kd % 6)):Int) == 5) (λd4=>?_) (λd4=>?_))))
      ·refine En (Ls (Lg [1] (Lw (Zu 2 2 (aH.cells (⟨1+(xa.kd % 6),xa.vw % 6,0,cP,none,0,[],aI⟩:aH)) a1 λe6 d5=>Lo (Ld (Lt (Ls (Dz (dE (Hl 1 4 3 d5 Hz) (Zt (eZ (t:=!xa.ra) (λd6=>?_) (λd6=>?_))))))))))))
       ·obtain⟨n,kn,va,vc,vl,wa,wc,wl,ca,cc,cl⟩:=x
        obtain⟨hI0,m9⟩:=Bd.open (d5.pull 1 rfl)
        have hI:Inv t n vl wl cl:=hI0
        have b9:St w0 (aB lp (aQ.cells (⟨n,kn,va,vc,vl,wa,wc,wl,ca,cc,cl⟩:aQ)) 214::Sl va vc 209 4 aT.cells vl::aE cM vl::Sl wa wc 215 1 bD.ptr wl::aE cA wl::Sl ca cc 287 1 bT.cells cl::aE cF cl::aB wp #[.slice ka kl.length kc,.slice aa al.length ac,zP lp 0] 35::aB u (aH.cells (⟨1+(xa.kd % 6),xa.vw % 6,0,cP,none,0,[],aI⟩:aH)) 53::aB b4 (aH.cells qx) 53::aB b1 (fF.cells xa) 68::Sl ka kc 50 11 aP.cells kl::L) e6:=m9
        have hn:3 <= n /\ n <= 11:=⟨hI.n3,hI.Jw⟩
        have hwl:=hI.hw
        have hcl:=hI.hc
        have hvt:=hI.hv
        have hvl:0<vl.length:=by obtain⟨z,hz,-⟩:=hI.h0;exact List.length_pos_of_mem hz
        obtain⟨vb,rfl⟩:=Sl.isSome (b9.at_ 1 rfl) za
        obtain⟨wb,rfl⟩:=Sl.isSome (b9.at_ 3 rfl) za
        obtain⟨cb,rfl⟩:=Sl.isSome (b9.at_ 5 rfl) za
        have hvr:=hI.hr _ (bJ (d:=aN) (show vl.length-1<vl.length by omega))
        refine ZD (gE [0,1,2,3,4,5,6,7,8,9,10,11,12,13,14,15,16,17,18,19] (.ef 20 .done)) b9 λs4 a6 s5=>Zj (Hl 3 7 2 a6 (Hl 6 0 12 a6 (Hl 10 7 2 a6 (Hl 13 0 12 a6 (Hg 15 (.dH (.int .i64 (vl.length-1:Nat)) (.gen [])) [.prop (Value.int .i64 (IntKind.i64.wrap ((vl.length:Nat)-1))=Value.int .i64 (vl.length-1:Nat))] (aJ (ct za za za) aR) (Hx 16 ((vl.length-1:Nat):Int) (vl.length:Int) vb 0 4 (Hg 18 (.gen [.int .u64 ((vl.getD (vl.length-1) aN).vv)]) [.cell ⟨vb,0+((vl.length-1)*4),none⟩ (.int .u64 ((vl.getD (vl.length-1) aN).vv))] (bE (aC.cV (a6.rows 1 rfl jJ.size aN) (k:=(vl.length-1)) zo (j:=0) zb zk) aR) Hz))))))) (Zu 8 1 (aH.cells (⟨1+(xa.kd % 6),(vl.getD (vl.length-1) aN).vv,0,cP,none,0,[],aI⟩:aH)) a6 λe7 n0=>Lo (Ld (Lm (Dz ?_))))
        have n1:St w0 (LS lp t (RF n kn vb vc vl wb wc wl cb cc cl)::aB wp #[.slice ka kl.length kc,.slice aa al.length ac,zP lp 0] 35::aB u (aH.cells (⟨1+(xa.kd % 6),(vl.getD (vl.length-1) aN).vv,0,cP,none,0,[],aI⟩:aH)) 53::aB b4 (aH.cells qx) 53::aB b1 (fF.cells xa) 68::Sl ka kc 50 11 aP.cells kl::L) e7:=Bd.close hI n0
        have n2:=St.eB n1 174 2 bu.cells
        have n4:=((((((n2.pl 1).pl 6).pl 3).pl 5).pl 4).pl 5).pl 6
        have n5:=n4.dr 1
        have n6:St w0 (aB u (aH.cells (⟨1+(xa.kd % 6),(vl.getD (vl.length-1) aN).vv,0,cP,none,0,[],aI⟩:aH)) 53::Sl none 0 174 2 bu.cells ([]:List bu)::aB b4 (aH.cells qx) 53::aB wp #[.slice ka kl.length kc,.slice aa al.length ac,zP lp 0] 35::Sl ka kc 50 11 aP.cells kl::LS lp t (RF n kn vb vc vl wb wc wl cb cc cl)::L) e7:=n5
        exact vB [6,7] (⟨1+(xa.kd % 6),(vl.getD (vl.length-1) aN).vv,0,cP,none,0,[],aI⟩:aH) ⟨⟨by dsimp only;omega,by dsimp only;first|omega|exact wrap64 _,by dsimp only;omega,fZ,(λp hp=>absurd hp List.not_mem_nil),du,(by show([]:List bu).length <= _;exact Nat.zero_le _)⟩,n6⟩
       ·refine Zk (Zm ?_)
        have n7:=St.eB d5 174 2 bu.cells
        have n8:=((((((n7.pl 2).pl 6).pl 3).pl 5).pl 4).pl 5).pl 6
        have n9:=n8.dr 1
        have o0:St w0 (aB u (aH.cells (⟨1+(xa.kd % 6),xa.vw % 6,0,cP,none,0,[],aI⟩:aH)) 53::Sl none 0 174 2 bu.cells ([]:List bu)::aB b4 (aH.cells qx) 53::aB wp #[.slice ka kl.length kc,.slice aa al.length ac,zP lp 0] 35::Sl ka kc 50 11 aP.cells kl::LS lp t x::L) e6:=n9
        exact vB [6,7] (⟨1+(xa.kd % 6),xa.vw % 6,0,cP,none,0,[],aI⟩:aH) ⟨⟨by dsimp only;omega,by dsimp only;first|omega|exact wrap64 _,by dsimp only;omega,fZ,(λp hp=>absurd hp List.not_mem_nil),du,(by show([]:List bu).length <= _;exact Nat.zero_le _)⟩,o0⟩
      ·refine En (Lq (Dz (eZ (t:=((1+(xa.kd % 6)):Int) == 6) (λd7=>?_) (λd7=>?_))))
       ·refine En (Ls (Lg [1] (Lw (Zu 2 1 (aH.cells (⟨1+(xa.kd % 6),0,1+(xa.k % 6),cP,none,0,[],aI⟩:aH)) a1 λs7 e8=>Lo (Ld (Lt (Dz (dZ [4] (Hl 1 4 9 e8 (Hx 3 (0:Int) (32:Int) u 44 1 Hz)) (Zu 2 44 (aH.cells (⟨1+(xa.kd % 6),0,1+(xa.k % 6),cP,none,0,[],(#v[xa.ky,aI[1],aI[2],aI[3],aI[4],aI[5],aI[6],aI[7],aI[8],aI[9],aI[10],aI[11],aI[12],aI[13],aI[14],aI[15],aI[16],aI[17],aI[18],aI[19],aI[20],aI[21],aI[22],aI[23],aI[24],aI[25],aI[26],aI[27],aI[28],aI[29],aI[30],aI[31]]:bW)⟩:aH)) e8 λo2 o3=>Lo (Ld (Lm (Dz ?_))))))))))))
        have o4:=St.eB o3 174 2 bu.cells
        have o5:=((((((o4.pl 2).pl 6).pl 3).pl 5).pl 4).pl 5).pl 6
        have o6:=o5.dr 1
        have o7:St w0 (aB u (aH.cells (⟨1+(xa.kd % 6),0,1+(xa.k % 6),cP,none,0,[],(#v[xa.ky,aI[1],aI[2],aI[3],aI[4],aI[5],aI[6],aI[7],aI[8],aI[9],aI[10],aI[11],aI[12],aI[13],aI[14],aI[15],aI[16],aI[17],aI[18],aI[19],aI[20],aI[21],aI[22],aI[23],aI[24],aI[25],aI[26],aI[27],aI[28],aI[29],aI[30],aI[31]]:bW)⟩:aH)) 53::Sl none 0 174 2 bu.cells ([]:List bu)::aB b4 (aH.cells qx) 53::aB wp #[.slice ka kl.length kc,.slice aa al.length ac,zP lp 0] 35::Sl ka kc 50 11 aP.cells kl::LS lp t x::L) o2:=o6
        exact vB [6,7] (⟨1+(xa.kd % 6),0,1+(xa.k % 6),cP,none,0,[],(#v[xa.ky,aI[1],aI[2],aI[3],aI[4],aI[5],aI[6],aI[7],aI[8],aI[9],aI[10],aI[11],aI[12],aI[13],aI[14],aI[15],aI[16],aI[17],aI[18],aI[19],aI[20],aI[21],aI[22],aI[23],aI[24],aI[25],aI[26],aI[27],aI[28],aI[29],aI[30],aI[31]]:bW)⟩:aH) ⟨⟨by dsimp only;omega,by dsimp only;first|omega|exact wrap64 _,by dsimp only;omega,fZ,(λp hp=>absurd hp List.not_mem_nil),Ro ha.ky,(by show([]:List bu).length <= _;exact Nat.zero_le _)⟩,o7⟩
       ·refine Zk (Zm ?_)
        have o8:=St.eB a1 174 2 bu.cells
        have o9:=((((((o8.pl 2).pl 6).pl 3).pl 5).pl 4).pl 5).pl 6
        have p0:=o9.dr 1
        have p1:St w0 (aB u (aH.cells (⟨1+(xa.kd % 6),xa.vw % 6,1+(xa.k % 6),cP,none,0,[],aI⟩:aH)) 53::Sl none 0 174 2 bu.cells ([]:List bu)::aB b4 (aH.cells qx) 53::aB wp #[.slice ka kl.length kc,.slice aa al.length ac,zP lp 0] 35::Sl ka kc 50 11 aP.cells kl::LS lp t x::L) e0:=p0
        exact vB [6,7] (⟨1+(xa.kd % 6),xa.vw % 6,1+(xa.k % 6),cP,none,0,[],aI⟩:aH) ⟨⟨by dsimp only;omega,by dsimp only;first|omega|exact wrap64 _,by dsimp only;omega,fZ,(λp hp=>absurd hp List.not_mem_nil),du,(by show([]:List bu).length <= _;exact Nat.zero_le _)⟩,p1⟩
 rintro bb s8 ⟨hbb,a7⟩
 refine aS.gL (S':=[(6,zP b4 0),(7,zP u 0)]) rfl (Zt (Zs (Zs (aX.join (T:=Unit) (E:=λ_=>[(141,.bool (((decide ((bb.kd:Int) >= 3)) && (decide ((bb.kd:Int) <= 5))) && ((bb.vw:Int) == 0))),(6,zP b4 0),(7,zP u 0)]) (F:=λ_ w=>St w0 (aB u (aH.cells bb) 53::Sl bb.qa bb.qc 174 2 bu.cells bb.ql::aB b4 (aH.cells qx) 53::aB wp #[.slice ka kl.length kc,.slice aa al.length ac,zP lp 0] 35::Sl ka kc 50 11 aP.cells kl::LS lp t x::L) w) ?_ ?_))))
 ·refine Zg [] (kJ 0 4 (Hl 1 0 0 a7 Hz) (iy 132 (decide ((bb.kd:Int) >= 3)) (λa8=>?_) (λa8=>?_)))
  ·refine kJ 4 5 (Hl 5 0 0 a7 Hz) (iy 137 (decide ((bb.kd:Int) <= 5)) (λb0=>?_) (λb0=>?_))
   ·exact kV (Hl 10 0 1 a7 Hz) (lM [141,6,7] () ((bb.vw:Int) == 0) (by first|rfl|simp [Hb,a8,b0]) a7)
   ·exact En (cI (Dz (lM [141,6,7] () false (by first|rfl|simp [Hb,a8,b0]) a7)))
  ·exact En (cI (Dz (lM [141,6,7] () false (by first|rfl|simp [Hb,a8]) a7)))
 intro _ t0 d8
 refine Zt (eZ (t:=((decide ((bb.kd:Int) >= 3)) && (decide ((bb.kd:Int) <= 5))) && ((bb.vw:Int) == 0)) (λd9=>?_) (λd9=>?_))
 ·have e9:=(Bool.and_eq_true_iff.1 d9).1
  have h149aa:=(Bool.and_eq_true_iff.1 e9).1
  have h149ab:(decide ((bb.kd:Int) <= 5))=true:=(Bool.and_eq_true_iff.1 e9).2
  have p4:((bb.vw:Int) == 0)=true:=(Bool.and_eq_true_iff.1 d9).2
  refine En (Lg [1] (Lw (Zu 0 1 (aH.cells (⟨bb.kd,1,bb.k,bb.rq,bb.qa,bb.qc,bb.ql,bb.dg⟩:aH)) d8 λt2 f0=>Lo (Ld (Lt (Ls (Dz (dZ [1] (hP 0 0 0 76 (aH.cells (⟨bb.kd,1,bb.k,bb.rq,bb.qa,bb.qc,bb.ql,bb.dg⟩:aH)) f0 Hz) (Zu 2 0 (aH.cells (⟨bb.kd,1,bb.k,bb.rq,bb.qa,bb.qc,bb.ql,bb.dg⟩:aH)) f0 λt3 f1=>Lo (Ld (Lt (Le (Dz (CI 2 f1 ?_))))))))))))))
  have p5:=(((((f1.pl 1).pl 5).pl 5).pl 5).pl 5).pl 5
  exact⟨(⟨bb.kd,1,bb.k,bb.rq,bb.qa,bb.qc,bb.ql,bb.dg⟩:aH),rfl,⟨hbb.kd,by dsimp only;omega,hbb.k,hbb.rq,hbb.ql,hbb.dg,hbb.qn⟩,p5.dr 2⟩
 ·refine Zk (Zt (Zs (dZ [1] (hP 0 0 0 76 (aH.cells bb) d8 Hz) (Zu 2 0 (aH.cells bb) d8 λt4 f2=>Lo (Ld (Lt (Le (Dz (CI 2 f2 ?_)))))))))
  have p7:=(((((f2.pl 1).pl 5).pl 5).pl 5).pl 5).pl 5
  exact⟨bb,rfl,hbb,p7.dr 2⟩
end
section
variable {w0 w : World} {L : List bA}
def VK (t:Nat) (kl:List aP):Prop:=∀ v∈kl,∀ z∈v.toList,0 <= z /\ z <= (t:Int)
theorem VK.at_ {t:Nat}{kl:List aP}(h:VK t kl){k:Nat}(hk:k<kl.length) (i:Nat):0 <= (kl.getD k dB).toList.getD i 0 /\ (kl.getD k dB).toList.getD i 0 <= (t:Int):=by
 rcases Nat.lt_or_ge i (kl.getD k dB).toList.length with hi|hi
 ·exact h _ (bJ hk) _ (bJ hi)
 ·rw [List.getD_eq_getElem?_getD,List.getElem?_eq_none hi]
  exact⟨Int.le_refl 0,Int.natCast_nonneg _⟩
theorem VK.put {t:Nat}{kl:List aP}(h:VK t kl){k:Nat}(hk:k<kl.length) (i:Nat){x:Int}(hx:0 <= x /\ x <= (t:Int)):VK t (kl.set k (aP.put (kl.getD k dB) i x)):=λv hv=>by
 rcases mem_set hv with rfl|hv
 ·exact aP.rF (p:=λz=>0 <= z /\ z <= (t:Int)) (h _ (bJ hk)) hx
 ·exact h v hv
theorem VK.mono {t:Nat}{kl:List aP}(h:VK t kl):VK (t+1) kl:=λv hv z hz=>by have:=h v hv z hz;omega
theorem My.mono {t:Nat}{g:EY}(h:My t g):My (t+1) g:=⟨h.hk,VK.mono h.hv,h.hg,by have:=h.hl;omega⟩
set_option maxHeartbeats 4000000 in
theorem Gx {wp:Nat}(xa:fF) (t:Nat) (g:EY) (ha:Gb xa) (hxq:xa.ql.length <= 1000) (ht:t <= 80) (hr:Rw w0 L aD 1 0 xa.qa xa.ql) (hs:St w0 (WD wp t g::L) w):Cs Tryz.prog 20 #[zP wp 0,.agg (fF.cells xa)] w λrv w'=>∃ (mz2:aK) (g2:EY),rv=.agg (aK.cells mz2) /\ g2.kl.length=g.kl.length /\ St w0 (WD wp (t+1) g2::L) w':=by
 obtain⟨ka,kc,kl,aa,ac,al,lp,x⟩:=g
 obtain⟨hW,e2⟩:=Bd.open hs
 have b7:St w0 (aB wp #[.slice ka kl.length kc,.slice aa al.length ac,zP lp 0] 35::Sl ka kc 50 11 aP.cells kl::Sl aa ac 55 121 aK.cells al::aE lO al::LS lp t x::L) w:=e2
 have hI:=(Bd.open (b7.pull 4 rfl)).1
 have k7:=hI.n3
 have k8:=hI.Jw
 have hkl:(kl.length:Int)=x.n:=hW.hk
 have hvk:VK t kl:=hW.hv
 have hal:al.length <= t:=hW.hl
 have g1:=ha.wh
 have g2:=ha.ot
 have g3:=ha.kd
 have g4:=ha.vw
 have g5:=ha.k
 have g6:=ha.ci
 have g7:=ha.tm
 have g8:=ha.ky
 obtain⟨kb,rfl⟩:=Sl.isSome (b7.at_ 1 rfl) za
 refine dF Tryz.func20 Tryz.ntmps20 (En (Ls (Lg [0,1] (Dz (mT (fF.cells xa) b7 λb3 w4 e3=>Lo (Dz (tW (aK.cells fE) e3 λb6 w7 a6=>Lo (Ld (Lt (Ls (Dz (dE (Hl 3 2 0 a6 Hz) (En (Lt (Ls (Lg [] (Dz ?_)))))))))))))))))
 obtain⟨u,e4⟩:∃ q9:Nat,(xa.wh:Int) % (kl.length:Nat)=(q9:Int) /\ (q9:Int)<(kl.length:Nat):=Fa za za
 refine kV (Hl 1 1 0 a6 (eT 2 xa.wh (Hg 4 (.div (u:Nat)) [.prop (IntKind.i64=IntKind.i64 /\ (kl.length:Int)≠0 /\ Int.tmod xa.wh (kl.length:Nat)=(u:Nat))] (aJ ⟨rfl,za,by rw [Int.tmod_eq_emod_of_nonneg za];exact e4.1⟩ aR) (Hg 5 (.dH (.int .i64 ((u:Nat)+1)) (.gen [])) [.prop (Value.int .i64 (IntKind.i64.wrap (1+(u:Nat)))=Value.int .i64 ((u:Nat)+1))] (aJ (ct za za za) aR) Hz)))) (Zt (Zs (Zs (dE (Hl 1 1 2 a6 Hz) (Zt (eZ (t:=xa.me) (λe5=>?_) (λe5=>?_)))))))
 ·refine En (Ls (Lg [] (Dz ?_)))
  obtain⟨a0,e6⟩:∃ q9:Nat,(xa.ot:Int) % (kl.length:Nat)=(q9:Int) /\ (q9:Int)<(kl.length:Nat):=Fa za za
  refine kV (Hl 1 1 1 a6 (eT 2 xa.ot (Hg 4 (.div (a0:Nat)) [.prop (IntKind.i64=IntKind.i64 /\ (kl.length:Int)≠0 /\ Int.tmod xa.ot (kl.length:Nat)=(a0:Nat))] (aJ ⟨rfl,za,by rw [Int.tmod_eq_emod_of_nonneg za];exact e6.1⟩ aR) Hz))) (En (Lt (Ls (Lq (Lb (Dz (aX.loop (T:=Nat×(List aP)) (λgg=>[(0,zP wp 0),(3,zP b3 0),(4,zP b6 0),(6,.int .i64 ((u:Nat)+1)),(7,.int .i64 (a0:Nat)),(8,.int .i64 (gg.1:Nat))]) (λgg w=>(gg.1 <= 11 /\ gg.2.length=kl.length /\ VK t gg.2) /\ St w0 (Sl (sm kb) kc 50 11 aP.cells gg.2::aB b6 (aK.cells fE) 55::aB b3 (fF.cells xa) 68::aB wp #[zL kb 0 kl.length kc,.slice aa al.length ac,zP lp 0] 35::Sl aa ac 55 121 aK.cells al::aE lO al::LS lp t x::L) w) (λgg=>11-gg.1) (0,kl) [0,3,4,6,7,8] zk ⟨⟨Nat.zero_le _,rfl,hvk⟩,((((((a6.pl 6).pl 6).pl 6).pl 5).pl 5).pl 5).pl 6⟩ ?_)))))))
  rintro⟨i,kq⟩ k9 ⟨hp,b9⟩
  dsimp only at hp b9
  refine En (Ls (Lq (Dz (Zi ((i:Int)<11) (λe8=>?_) (λe8=>?_)))))
  ·exact Zk (Zt (Zs (Zb (ZD (gE [0,1,2,3,4,5,6,7,8,9,10,11,12,13,14,15,16,17,18,19,20,21,22,23,24,25,26,27,28] (.ef 29 .done)) b9 λl0 a7 l1=>Zj (Hl 3 3 0 a7 (Hg 5 (.dH (.int .i64 (u:Nat)) (.gen [])) [.prop (Value.int .i64 (IntKind.i64.wrap (((u:Nat)+1)-1))=Value.int .i64 (u:Nat))] (aJ (ct za za za) aR) (Hl 10 3 0 a7 (Hg 12 (.dH (.int .i64 (u:Nat)) (.gen [])) [.prop (Value.int .i64 (IntKind.i64.wrap (((u:Nat)+1)-1))=Value.int .i64 (u:Nat))] (aJ (ct za za za) aR) (Hx 14 (u:Int) (kl.length:Int) kb 0 11 (Hx 15 (i:Int) (11:Int) kb (0+(u*11)) 1 (Hg 16 (.gen [.int .u64 ((kq.getD u dB).toList.getD i 0)]) [.cell ⟨kb,0+(u*11)+(i*1),none⟩ (.int .u64 ((kq.getD u dB).toList.getD i 0))] (bE (nd (k:=u) (i:=i) (a7.rows 0 rfl mv.size dB) za za) aR) (Hl 20 3 0 a7 (Hx 23 (a0:Int) (kl.length:Int) kb 0 11 (Hx 24 (i:Int) (11:Int) kb (0+(a0*11)) 1 (Hg 25 (.gen [.int .u64 ((kq.getD a0 dB).toList.getD i 0)]) [.cell ⟨kb,0+(a0*11)+(i*1),none⟩ (.int .u64 ((kq.getD a0 dB).toList.getD i 0))] (bE (nd (k:=a0) (i:=i) (a7.rows 0 rfl mv.size dB) za za) aR) (Hg 26 (.dH (.int .u64 (max ((kq.getD u dB).toList.getD i 0) ((kq.getD a0 dB).toList.getD i 0))) (.gen [])) [.prop (Value.int .u64 (if ((kq.getD a0 dB).toList.getD i 0)>((kq.getD u dB).toList.getD i 0) then ((kq.getD a0 dB).toList.getD i 0) else ((kq.getD u dB).toList.getD i 0))=Value.int .u64 (max ((kq.getD u dB).toList.getD i 0) ((kq.getD a0 dB).toList.getD i 0)))] (aJ GU aR) (Hx 27 (u:Int) (kl.length:Int) kb 0 11 (Hx 28 (i:Int) (11:Int) kb (0+(u*11)) 1 Hz)))))))))))))) (aL.kO rfl rfl zk (b:=kb) (off:=0+(u*11)+(i*1)) (v:=.int .u64 (max ((kq.getD u dB).toList.getD i 0) ((kq.getD a0 dB).toList.getD i 0))) zk zk (ti:=Tryz.t36) zk a7 0 mv.size rfl zk zk (by rw [Nat.zero_add];exact gI (f:=aP.cells) (size:=11) (l:=kq) (k:=u) (o:=(i*1)) (n:=1) mv.size za za) (List.length_set ..) (xs':=kq.set u (aP.put (kq.getD u dB) i (max ((kq.getD u dB).toList.getD i 0) ((kq.getD a0 dB).toList.getD i 0)))) (by rw [Nat.zero_add];exact eN (f:=aP.cells) (size:=11) (l:=kq) (k:=u) (o:=(i*1)) mv.size za dB (aP.put (kq.getD u dB) i (max ((kq.getD u dB).toList.getD i 0) ((kq.getD a0 dB).toList.getD i 0))) (by show(i*1)+1 <= 11;omega) (aP.Mx _ _ za)) (L':=(Sl (sm kb) kc 50 11 aP.cells (kq.set u (aP.put (kq.getD u dB) i (max ((kq.getD u dB).toList.getD i 0) ((kq.getD a0 dB).toList.getD i 0)))))::aB b6 (aK.cells fE) 55::aB b3 (fF.cells xa) 68::aB wp #[zL kb 0 kl.length kc,.slice aa al.length ac,zP lp 0] 35::Sl aa ac 55 121 aK.cells al::aE lO al::LS lp t x::L) rfl λl2 e9=>Lo (Ld (Lm (Lt (Dz (dE (eT 1 ((i:Nat)+1) Hz) (aS.back (i+1,kq.set u (aP.put (kq.getD u dB) i (max ((kq.getD u dB).toList.getD i 0) ((kq.getD a0 dB).toList.getD i 0)))) [0,3,4,6,7,8] zk (by show 11-(i+1)<11-i;omega) ⟨⟨za,by rw [List.length_set];exact hp.2.1,hp.2.2.put za i (by have c1:=hp.2.2.at_ (k:=u) za i;have c2:=hp.2.2.at_ (k:=a0) za i;omega)⟩,e9⟩)))))))))))
  ·refine En (Lx (mM (mN (Lh (Lt (Ls (Lg [1] (Lw (Zu 1 0 (aK.cells fE) b9 λc0 d1=>Lo (Ld (Lt (Le (Ly (Dz (CI 1 d1 ?_)))))))))))))))
   have f0:=d1.pl 6
   have f1:St w0 (LS lp (t+1) x::Sl (sm kb) kc 50 11 aP.cells kq::aB b6 (aK.cells fE) 55::aB b3 (fF.cells xa) 68::aB wp #[zL kb 0 kl.length kc,.slice aa al.length ac,zP lp 0] 35::Sl aa ac 55 121 aK.cells al::aE lO al::L) c0:=LS.mono f0
   have f2:=(f1.pl 1).pl 4
   have f3:St w0 (aB wp #[zL kb 0 kq.length kc,.slice aa al.length ac,zP lp 0] 35::Sl (sm kb) kc 50 11 aP.cells kq::LS lp (t+1) x::aB b6 (aK.cells fE) 55::aB b3 (fF.cells xa) 68::Sl aa ac 55 121 aK.cells al::aE lO al::L) c0:=(by rw [show kq.length=kl.length from hp.2.1];exact f2)
   have f4:=((((f3.pl 2).pl 6).pl 6).pl 4).pl 4
   have f5:St w0 (WD wp (t+1) (⟨some ⟨kb,0,none⟩,kc,kq,aa,ac,al,lp,x⟩:EY)::aB b6 (aK.cells fE) 55::aB b3 (fF.cells xa) 68::L) c0:=Bd.close ⟨by show(kq.length:Int)=_;rw [hp.2.1];exact hkl,hp.2.2.mono,hW.hg,by show al.length <= t+1;omega⟩ f4
   have f6:=((f5.pl 0).pl 2).pl 2
   exact⟨fE,(⟨some ⟨kb,0,none⟩,kc,kq,aa,ac,al,lp,x⟩:EY),rfl,hp.2.1,f6.dr 2⟩
 ·refine Zk (Zt (Zs ?_))
  have hka:=hvk.at_ (k:=u) za u
  refine aX.join (T:=Nat×aH) (E:=λjx=>[(0,zP wp 0),(4,zP b6 0),(6,.int .i64 ((u:Nat)+1)),(9,zP jx.1 0)]) (F:=λjx w=>(iK jx.2) /\ St w0 (aB jx.1 (aK.cells (⟨(u:Nat)+1,((kl.getD u dB).toList.getD u 0)+1,kl.getD u dB,jx.2,aI⟩:aK)) 55::aB wp #[zL kb 0 kl.length kc,.slice aa al.length ac,zP lp 0] 35::Sl (sm kb) kc 50 11 aP.cells kl::LS lp t x::Sl jx.2.qa jx.2.qc 174 2 bu.cells jx.2.ql::aB b6 (aK.cells fE) 55::aB b3 (fF.cells xa) 68::Sl aa ac 55 121 aK.cells al::aE lO al::L) w) ?_ ?_
  ·refine aX.fI [0,0,2,6,14,0,32,0,128,126,1022,2046,4094,0,8192,24576,57344,0,131072,516096,1040384,0,0,0,14680064,33554431,0,134217727] (.rd 0 (.rd 1 (.rd 2 (.rd 3 (.rd 4 (.rd 5 (.rd 6 (.rd 7 (.rd 8 (.rd 9 (.rd 10 (.rd 11 (.rd 12 (.rd 13 (.rd 14 (.rd 15 (.rd 16 (.rd 17 (.rd 18 (.rd 19 (.rd 20 (.rd 21 (.rd 22 (.rd 23 (.alt (.ef 24 (.rd 25 (.ef 26 (.ef 27 .done)))) (.ef 26 (.ef 24 (.rd 25 (.ef 27 .done))))))))))))))))))))))))))))) zk zk aZ zk a6 λl3 a4 l4=>Zp 0 24 [(4,.gen [zL kb 0 kl.length kc]),(6,.dH (.int .i64 (u:Nat)) (.gen [])),(8,.dH (.int .i64 (u:Nat)) (.gen [])),(9,.dH (zP kb (0+(u*11))) .at_),(10,.dH (zP kb (0+(u*11)+(u*1))) .at_),(11,.gen [.int .u64 ((kl.getD u dB).toList.getD u 0)]),(12,.dH (.int .u64 (((kl.getD u dB).toList.getD u 0)+1)) (.gen [])),(16,.gen [zL kb 0 kl.length kc]),(18,.dH (.int .i64 (u:Nat)) (.gen [])),(19,.dH (zP kb (0+(u*11))) .at_),(20,.agg (aP.cells (kl.getD u dB))),(23,.agg (fF.cells xa))] [(4,[.cell ⟨wp,0,none⟩ (zL kb 0 kl.length kc)]),(6,[.prop (Value.int .i64 (IntKind.i64.wrap (((u:Nat)+1)-1))=Value.int .i64 (u:Nat))]),(8,[.prop (Value.int .i64 (IntKind.i64.wrap (((u:Nat)+1)-1))=Value.int .i64 (u:Nat))]),(9,[.prop (0 <= (u:Int) /\ (u:Int)<(kl.length:Int)),.prop (Value.pointer (some (Addr.add ⟨kb,0,none⟩ (Int.toNat (u:Nat)*11)))=Value.pointer (some ⟨kb,0+(u*11),none⟩))]),(10,[.prop (0 <= (u:Int) /\ (u:Int)<(11:Int)),.prop (Value.pointer (some (Addr.add ⟨kb,0+(u*11),none⟩ (Int.toNat (u:Nat)*1)))=Value.pointer (some ⟨kb,0+(u*11)+(u*1),none⟩))]),(11,[.cell ⟨kb,0+(u*11)+(u*1),none⟩ (.int .u64 ((kl.getD u dB).toList.getD u 0))]),(12,[.prop (Value.int .u64 (IntKind.u64.wrap (((kl.getD u dB).toList.getD u 0)+1))=Value.int .u64 (((kl.getD u dB).toList.getD u 0)+1))]),(16,[.cell ⟨wp,0,none⟩ (zL kb 0 kl.length kc)]),(18,[.prop (Value.int .i64 (IntKind.i64.wrap (((u:Nat)+1)-1))=Value.int .i64 (u:Nat))]),(19,[.prop (0 <= (u:Int) /\ (u:Int)<(kl.length:Int)),.prop (Value.pointer (some (Addr.add ⟨kb,0,none⟩ (Int.toNat (u:Nat)*11)))=Value.pointer (some ⟨kb,0+(u*11),none⟩))]),(20,[.prop (Array.size (aP.cells (kl.getD u dB))=11),.cells ⟨kb,0+(u*11),none⟩ (aP.cells (kl.getD u dB))]),(23,[.prop (Array.size (fF.cells xa)=12),.cells ⟨b3,0,none⟩ (fF.cells xa)])] (ak (bE (a4.cell 2 rfl zk) aR) (ak (aJ (ct za za za) aR) (ak (aJ (ct za za za) aR) (ak (aJ za (aJ (aU _ _ _) aR)) (ak (aJ za (aJ (aU _ _ _) aR)) (ak (bE (nd (k:=u) (i:=u) (a4.rows 3 rfl mv.size dB) za za) aR) (ak (aJ (pQ za za) aR) (ak (bE (a4.cell 2 rfl zk) aR) (ak (aJ (ct za za za) aR) (ak (aJ za (aJ (aU _ _ _) aR)) (ak (aJ zk (iN (aC.mj (a4.rows 3 rfl mv.size dB) (k:=u) zo (Nat.le_of_ble_eq_true zk) zk) aR)) (ak (aJ zk (iN (a4.cells 1 0 rfl zk) aR)) iF)))))))))))) (aL.alt ?_ ?_)
   ·refine Zc (sx ((u:Nat)+1) xa t x za hkl ha zc zc (λw h=>hr _ (h.drop 4)) (((a4.pl 6).pl 4).pl 4)) ?_
    rintro l5 l6 ⟨d2,rfl,f9,b2⟩
    exact⟨gR (n:=[.prop (Array.size (aP.cells (kl.getD u dB))=11),.cells ⟨kb,0+(u*11),none⟩ (aP.cells (kl.getD u dB)),.prop (0 <= (u:Int) /\ (u:Int)<(kl.length:Int)),.prop (Value.pointer (some (Addr.add ⟨kb,0,none⟩ (Int.toNat (u:Nat)*11)))=Value.pointer (some ⟨kb,0+(u*11),none⟩)),.prop (Value.int .i64 (IntKind.i64.wrap (((u:Nat)+1)-1))=Value.int .i64 (u:Nat)),.cell ⟨wp,0,none⟩ (zL kb 0 kl.length kc),.prop (Value.int .u64 (IntKind.u64.wrap (((kl.getD u dB).toList.getD u 0)+1))=Value.int .u64 (((kl.getD u dB).toList.getD u 0)+1)),.cell ⟨kb,0+(u*11)+(u*1),none⟩ (.int .u64 ((kl.getD u dB).toList.getD u 0)),.prop (0 <= (u:Int) /\ (u:Int)<(11:Int)),.prop (Value.pointer (some (Addr.add ⟨kb,0+(u*11),none⟩ (Int.toNat (u:Nat)*1)))=Value.pointer (some ⟨kb,0+(u*11)+(u*1),none⟩)),.prop (0 <= (u:Int) /\ (u:Int)<(kl.length:Int)),.prop (Value.pointer (some (Addr.add ⟨kb,0,none⟩ (Int.toNat (u:Nat)*11)))=Value.pointer (some ⟨kb,0+(u*11),none⟩)),.prop (Value.int .i64 (IntKind.i64.wrap (((u:Nat)+1)-1))=Value.int .i64 (u:Nat)),.prop (Value.int .i64 (IntKind.i64.wrap (((u:Nat)+1)-1))=Value.int .i64 (u:Nat)),.cell ⟨wp,0,none⟩ (zL kb 0 kl.length kc)]) zk (aJ zk (iN (aC.mj (b2.rows 1 rfl mv.size dB) (k:=u) zo (Nat.le_of_ble_eq_true zk) zk) (aJ za (aJ (aU _ _ _) (aJ (ct za za za) (bE (b2.cell 0 rfl zk) (aJ (pQ za za) (bE (nd (k:=u) (i:=u) (b2.rows 1 rfl mv.size dB) za za) (aJ za (aJ (aU _ _ _) (aJ za (aJ (aU _ _ _) (aJ (ct za za za) (aJ (ct za za za) (bE (b2.cell 0 rfl zk) aR))))))))))))))),Zr 25 1 [] (tW (aK.cells fE) b2 λg0 l7 a8=>⟨gR (n:=[.prop (Array.size (fF.cells xa)=12),.cells ⟨b3,0,none⟩ (fF.cells xa),.prop (Array.size (aP.cells (kl.getD u dB))=11),.cells ⟨kb,0+(u*11),none⟩ (aP.cells (kl.getD u dB)),.prop (0 <= (u:Int) /\ (u:Int)<(kl.length:Int)),.prop (Value.pointer (some (Addr.add ⟨kb,0,none⟩ (Int.toNat (u:Nat)*11)))=Value.pointer (some ⟨kb,0+(u*11),none⟩)),.prop (Value.int .i64 (IntKind.i64.wrap (((u:Nat)+1)-1))=Value.int .i64 (u:Nat)),.cell ⟨wp,0,none⟩ (zL kb 0 kl.length kc),.prop (Value.int .u64 (IntKind.u64.wrap (((kl.getD u dB).toList.getD u 0)+1))=Value.int .u64 (((kl.getD u dB).toList.getD u 0)+1)),.cell ⟨kb,0+(u*11)+(u*1),none⟩ (.int .u64 ((kl.getD u dB).toList.getD u 0)),.prop (0 <= (u:Int) /\ (u:Int)<(11:Int)),.prop (Value.pointer (some (Addr.add ⟨kb,0+(u*11),none⟩ (Int.toNat (u:Nat)*1)))=Value.pointer (some ⟨kb,0+(u*11)+(u*1),none⟩)),.prop (0 <= (u:Int) /\ (u:Int)<(kl.length:Int)),.prop (Value.pointer (some (Addr.add ⟨kb,0,none⟩ (Int.toNat (u:Nat)*11)))=Value.pointer (some ⟨kb,0+(u*11),none⟩)),.prop (Value.int .i64 (IntKind.i64.wrap (((u:Nat)+1)-1))=Value.int .i64 (u:Nat)),.prop (Value.int .i64 (IntKind.i64.wrap (((u:Nat)+1)-1))=Value.int .i64 (u:Nat)),.cell ⟨wp,0,none⟩ (zL kb 0 kl.length kc)]) zk (aJ zk (iN (a8.cells 6 0 rfl zk) (aJ zk (iN (aC.mj (a8.rows 2 rfl mv.size dB) (k:=u) zo (Nat.le_of_ble_eq_true zk) zk) (aJ za (aJ (aU _ _ _) (aJ (ct za za za) (bE (a8.cell 1 rfl zk) (aJ (pQ za za) (bE (nd (k:=u) (i:=u) (a8.rows 2 rfl mv.size dB) za za) (aJ za (aJ (aU _ _ _) (aJ za (aJ (aU _ _ _) (aJ (ct za za za) (aJ (ct za za za) (bE (a8.cell 1 rfl zk) aR))))))))))))))))),(Zu 0 0 (aK.cells (⟨(u:Nat)+1,((kl.getD u dB).toList.getD u 0)+1,kl.getD u dB,d2,aI⟩:aK)) a8 λl8 g9=>Lo (Ld (Dz (vB [0,4,6,9] (g0,d2) ⟨f9,g9⟩))))⟩)⟩
   refine tW (aK.cells fE) a4 λh1 l9 a9=>⟨gR (n:=[.prop (Array.size (fF.cells xa)=12),.cells ⟨b3,0,none⟩ (fF.cells xa),.prop (Array.size (aP.cells (kl.getD u dB))=11),.cells ⟨kb,0+(u*11),none⟩ (aP.cells (kl.getD u dB)),.prop (0 <= (u:Int) /\ (u:Int)<(kl.length:Int)),.prop (Value.pointer (some (Addr.add ⟨kb,0,none⟩ (Int.toNat (u:Nat)*11)))=Value.pointer (some ⟨kb,0+(u*11),none⟩)),.prop (Value.int .i64 (IntKind.i64.wrap (((u:Nat)+1)-1))=Value.int .i64 (u:Nat)),.cell ⟨wp,0,none⟩ (zL kb 0 kl.length kc),.prop (Value.int .u64 (IntKind.u64.wrap (((kl.getD u dB).toList.getD u 0)+1))=Value.int .u64 (((kl.getD u dB).toList.getD u 0)+1)),.cell ⟨kb,0+(u*11)+(u*1),none⟩ (.int .u64 ((kl.getD u dB).toList.getD u 0)),.prop (0 <= (u:Int) /\ (u:Int)<(11:Int)),.prop (Value.pointer (some (Addr.add ⟨kb,0+(u*11),none⟩ (Int.toNat (u:Nat)*1)))=Value.pointer (some ⟨kb,0+(u*11)+(u*1),none⟩)),.prop (0 <= (u:Int) /\ (u:Int)<(kl.length:Int)),.prop (Value.pointer (some (Addr.add ⟨kb,0,none⟩ (Int.toNat (u:Nat)*11)))=Value.pointer (some ⟨kb,0+(u*11),none⟩)),.prop (Value.int .i64 (IntKind.i64.wrap (((u:Nat)+1)-1))=Value.int .i64 (u:Nat)),.prop (Value.int .i64 (IntKind.i64.wrap (((u:Nat)+1)-1))=Value.int .i64 (u:Nat)),.cell ⟨wp,0,none⟩ (zL kb 0 kl.length kc)]) zk (aJ zk (iN (a9.cells 2 0 rfl zk) (aJ zk (iN (aC.mj (a9.rows 4 rfl mv.size dB) (k:=u) zo (Nat.le_of_ble_eq_true zk) zk) (aJ za (aJ (aU _ _ _) (aJ (ct za za za) (bE (a9.cell 3 rfl zk) (aJ (pQ za za) (bE (nd (k:=u) (i:=u) (a9.rows 4 rfl mv.size dB) za za) (aJ za (aJ (aU _ _ _) (aJ za (aJ (aU _ _ _) (aJ (ct za za za) (aJ (ct za za za) (bE (a9.cell 3 rfl zk) aR))))))))))))))))),Zc (sx ((u:Nat)+1) xa t x za hkl ha zc zc (λw h=>hr _ (h.drop 5)) (((a9.pl 7).pl 5).pl 5)) ?_⟩
   rintro m0 m1 ⟨d3,rfl,h3,b4⟩
   exact⟨gR (n:=[.prop (Array.size (aP.cells (kl.getD u dB))=11),.cells ⟨kb,0+(u*11),none⟩ (aP.cells (kl.getD u dB)),.prop (0 <= (u:Int) /\ (u:Int)<(kl.length:Int)),.prop (Value.pointer (some (Addr.add ⟨kb,0,none⟩ (Int.toNat (u:Nat)*11)))=Value.pointer (some ⟨kb,0+(u*11),none⟩)),.prop (Value.int .i64 (IntKind.i64.wrap (((u:Nat)+1)-1))=Value.int .i64 (u:Nat)),.cell ⟨wp,0,none⟩ (zL kb 0 kl.length kc),.prop (Value.int .u64 (IntKind.u64.wrap (((kl.getD u dB).toList.getD u 0)+1))=Value.int .u64 (((kl.getD u dB).toList.getD u 0)+1)),.cell ⟨kb,0+(u*11)+(u*1),none⟩ (.int .u64 ((kl.getD u dB).toList.getD u 0)),.prop (0 <= (u:Int) /\ (u:Int)<(11:Int)),.prop (Value.pointer (some (Addr.add ⟨kb,0+(u*11),none⟩ (Int.toNat (u:Nat)*1)))=Value.pointer (some ⟨kb,0+(u*11)+(u*1),none⟩)),.prop (0 <= (u:Int) /\ (u:Int)<(kl.length:Int)),.prop (Value.pointer (some (Addr.add ⟨kb,0,none⟩ (Int.toNat (u:Nat)*11)))=Value.pointer (some ⟨kb,0+(u*11),none⟩)),.prop (Value.int .i64 (IntKind.i64.wrap (((u:Nat)+1)-1))=Value.int .i64 (u:Nat)),.prop (Value.int .i64 (IntKind.i64.wrap (((u:Nat)+1)-1))=Value.int .i64 (u:Nat)),.cell ⟨wp,0,none⟩ (zL kb 0 kl.length kc)]) zk (aJ zk (iN (aC.mj (b4.rows 1 rfl mv.size dB) (k:=u) zo (Nat.le_of_ble_eq_true zk) zk) (aJ za (aJ (aU _ _ _) (aJ (ct za za za) (bE (b4.cell 0 rfl zk) (aJ (pQ za za) (bE (nd (k:=u) (i:=u) (b4.rows 1 rfl mv.size dB) za za) (aJ za (aJ (aU _ _ _) (aJ za (aJ (aU _ _ _) (aJ (ct za za za) (aJ (ct za za za) (bE (b4.cell 0 rfl zk) aR))))))))))))))),Zr 25 1 [] (Zu 4 0 (aK.cells (⟨(u:Nat)+1,((kl.getD u dB).toList.getD u 0)+1,kl.getD u dB,d3,aI⟩:aK)) b4 λm2 h4=>Lo (Ld (Dz (vB [0,4,6,9] (h1,d3) ⟨h3,((((((((h4.pl 8).pl 8).pl 8).pl 8).pl 7).pl 7).pl 7).pl 7).pl 8⟩))))⟩
  rintro⟨a1,b0⟩ d4 ⟨c3,h6⟩
  have c3:iK b0:=c3
  have h7:St w0 (aB a1 (aK.cells (⟨(u:Nat)+1,((kl.getD u dB).toList.getD u 0)+1,kl.getD u dB,b0,aI⟩:aK)) 55::aB wp #[zL kb 0 kl.length kc,.slice aa al.length ac,zP lp 0] 35::Sl (sm kb) kc 50 11 aP.cells kl::LS lp t x::Sl b0.qa b0.qc 174 2 bu.cells b0.ql::aB b6 (aK.cells fE) 55::aB b3 (fF.cells xa) 68::Sl aa ac 55 121 aK.cells al::aE lO al::L) d4:=h6
  refine aS.gL (S':=[(0,zP wp 0),(4,zP b6 0),(6,.int .i64 ((u:Nat)+1)),(9,zP a1 0)]) rfl (Zt (Zs (Zs ?_)))
  obtain⟨mm,hmm⟩:∃ m:aK,m=(⟨(u:Nat)+1,((kl.getD u dB).toList.getD u 0)+1,kl.getD u dB,b0,aI⟩:aK):=⟨_,rfl⟩
  have hmo:lP mm:=by rw [hmm];exact⟨by dsimp only;omega,by dsimp only;omega,λz hz=>by have:=hvk _ (bJ (d:=dB) (show u<kl.length by omega)) z hz;omega,c3,du⟩
  have d5:St w0 (aB a1 (aK.cells mm) 55::aB wp #[zL kb 0 kl.length kc,.slice aa al.length ac,zP lp 0] 35::Sl (sm kb) kc 50 11 aP.cells kl::LS lp t x::Sl mm.bd.qa mm.bd.qc 174 2 bu.cells mm.bd.ql::aB b6 (aK.cells fE) 55::aB b3 (fF.cells xa) 68::Sl aa ac 55 121 aK.cells al::aE lO al::L) d4:=(by rw [hmm];exact h7)
  refine dZ [1] (hP 0 0 0 121 (aK.cells mm) d5 Hz) (dJ (f:=50) (args:=#[.agg (aK.cells mm)]) Tryz.call50 (pC mm hmo (λw h=>h.rows 4 rfl sF.size _) d5) ?_)
  rintro m3 m4 ⟨rfl,c4⟩
  refine Lz (Dz (eZ (t:=!(gv mm)) (λc5=>?_) (λc5=>?_)))
  ·refine En (Ls (Lg [1] (Lw (Zu 5 0 (aK.cells fE) c4 λd7 d8=>Lo (Ld (Lt (Le (Ly (Dz (CI 5 d8 ?_))))))))))
   have h8:=d8.pl 3
   have h9:St w0 (LS lp (t+1) x::aB a1 (aK.cells mm) 55::aB wp #[zL kb 0 kl.length kc,.slice aa al.length ac,zP lp 0] 35::Sl (sm kb) kc 50 11 aP.cells kl::Sl mm.bd.qa mm.bd.qc 174 2 bu.cells mm.bd.ql::aB b6 (aK.cells fE) 55::aB b3 (fF.cells xa) 68::Sl aa ac 55 121 aK.cells al::aE lO al::L) d7:=LS.mono h8
   have i0:=((((h9.pl 0).pl 8).pl 8).pl 5).pl 5
   have i1:St w0 (WD wp (t+1) (⟨some ⟨kb,0,none⟩,kc,kl,aa,ac,al,lp,x⟩:EY)::aB a1 (aK.cells mm) 55::Sl mm.bd.qa mm.bd.qc 174 2 bu.cells mm.bd.ql::aB b6 (aK.cells fE) 55::aB b3 (fF.cells xa) 68::L) d7:=Bd.close hW.mono i0
   have i2:=((((i1.pl 0).pl 4).pl 4).pl 4).pl 4
   exact⟨fE,(⟨some ⟨kb,0,none⟩,kc,kl,aa,ac,al,lp,x⟩:EY),rfl,rfl,i2.dr 4⟩
  ·have d6:=pK c5
   have hmay:gv mm=true:=d6
   refine Zk (Zt (Zs (dZ [1,2] (hP 0 0 0 121 (aK.cells mm) c4 Hz) (CH (Cb mm hmo hmay (λw h=>h.rows 4 rfl sF.size _) c4) λm6 i4=>Lo (Dz (Zu 0 0 (aK.cells (pP mm)) i4 λi5 i6=>Lo (Ld (Lt (Ls (Dz ?_))))))))))
   obtain⟨mg,hmg⟩:∃ m:aK,m=pP mm:=⟨_,rfl⟩
   have hgd:DE mg:=by rw [hmg];exact Jj hmo hmay
   have i7:St w0 (aB a1 (aK.cells mg) 55::aB wp #[zL kb 0 kl.length kc,.slice aa al.length ac,zP lp 0] 35::Sl (sm kb) kc 50 11 aP.cells kl::LS lp t x::Sl mg.bd.qa mg.bd.qc 174 2 bu.cells mg.bd.ql::aB b6 (aK.cells fE) 55::aB b3 (fF.cells xa) 68::Sl aa ac 55 121 aK.cells al::aE lO al::L) i5:=(by rw [hmg];exact i6)
   refine ZD (gE [0,1,2,3,4] (.ef 5 .done)) i7 λm7 c6 m8=>Zj (Hl 3 1 2 c6 (hP 4 0 0 121 (aK.cells mg) c6 Hz)) (Zc (Bs t x mg hgd.ok zc (λw h=>h.rows 3 rfl sF.size _) (c6.pl 3)) ?_)
   rintro m9 n0 ⟨n1,n2,a5,rfl,i9,j0⟩
   refine Lo (Ld (Lt (Ls (Dz (ZD (gE [0,1,2,3,4,5] (.ef 6 (.ef 7 (gE [8,9] (.ef 10 .done))))) j0 λn4 c7 n5=>Zj (Hl 4 2 1 c7 (hP 5 1 0 121 (aK.cells mg) c7 Hz)) (aL.bU rfl zk (t:=32) (e:=55) (n:=1) (ps:=[(0,.agg (aK.cells mg))]) zk zk (ti:=Tryz.t55) (z:=.agg (aK.cells fE)) zk zk zb zb (cs:=aK.cells mg) zk c7 λb1 j1 j2 j3=>?_))))))
   have d9:St w0 (Sl (sm b1) 1 55 121 aK.cells ([(mg:aK)])::LS lp (t+1) a5::aB a1 (aK.cells mg) 55::aB wp #[zL kb 0 kl.length kc,.slice aa al.length ac,zP lp 0] 35::Sl (sm kb) kc 50 11 aP.cells kl::Sl mg.bd.qa mg.bd.qc 174 2 bu.cells mg.bd.ql::aB b6 (aK.cells fE) 55::aB b3 (fF.cells xa) 68::Sl aa ac 55 121 aK.cells al::aE lO al::L) j1:=St.iw (l:=[(mg:aK)]) (f:=aK.cells) j2 j3 JR.size zf zk
   refine⟨Mv d9 3 rfl [1],(sD NH JR fE (d9.pl 8) zG λa2 a3 n6 j5=>Lo (Lw (Zu 4 1 #[zL kb 0 kl.length kc,.slice a2 ((al++([(mg:aK)])).length) a3,zP lp 0] j5 λn7 j6=>Lo (Ld (Lt (Ls (Dz (ZD (gE [0,1,2,3,4,5,6,7,8,9,10,11,12,13] (.ef 14 .done)) j6 λn8 c9 n9=>Zj (Hl 3 4 0 c9 (Hg 5 (.dH (.int .i64 (u:Nat)) (.gen [])) [.prop (Value.int .i64 (IntKind.i64.wrap (((u:Nat)+1)-1))=Value.int .i64 (u:Nat))] (aJ (ct za za za) aR) (Hg 7 (.dH (.int .i64 (u:Nat)) (.gen [])) [.prop (Value.int .i64 (IntKind.i64.wrap (((u:Nat)+1)-1))=Value.int .i64 (u:Nat))] (aJ (ct za za za) aR) (Hx 8 (u:Int) (kl.length:Int) kb 0 11 (Hx 9 (u:Int) (11:Int) kb (0+(u*11)) 1 (Hg 10 (.gen [.int .u64 ((kl.getD u dB).toList.getD u 0)]) [.cell ⟨kb,0+(u*11)+(u*1),none⟩ (.int .u64 ((kl.getD u dB).toList.getD u 0))] (bE (nd (k:=u) (i:=u) (c9.rows 5 rfl mv.size dB) za za) aR) (Cz 11 (((kl.getD u dB).toList.getD u 0)+1) (Hx 12 (u:Int) (kl.length:Int) kb 0 11 (Hx 13 (u:Int) (11:Int) kb (0+(u*11)) 1 Hz))))))))) (aL.kO rfl rfl zk (b:=kb) (off:=0+(u*11)+(u*1)) (v:=.int .u64 (((kl.getD u dB).toList.getD u 0)+1)) zk zk (ti:=Tryz.t36) zk c9 5 mv.size rfl zk zk (by rw [Nat.zero_add];exact gI (f:=aP.cells) (size:=11) (l:=kl) (k:=u) (o:=(u*1)) (n:=1) mv.size za za) (List.length_set ..) (xs':=kl.set u (aP.put (kl.getD u dB) u (((kl.getD u dB).toList.getD u 0)+1))) (by rw [Nat.zero_add];exact eN (f:=aP.cells) (size:=11) (l:=kl) (k:=u) (o:=(u*1)) mv.size za dB (aP.put (kl.getD u dB) u (((kl.getD u dB).toList.getD u 0)+1)) (by show(u*1)+1 <= 11;omega) (aP.Mx _ _ za)) (L':=(Sl a2 a3 55 121 aK.cells (al++([(mg:aK)])))::Sl (sm b1) 1 55 121 aK.cells ([(mg:aK)])::LS lp (t+1) a5::aB a1 (aK.cells mg) 55::aB wp #[zL kb 0 kl.length kc,.slice a2 ((al++([(mg:aK)])).length) a3,zP lp 0] 35::Sl (sm kb) kc 50 11 aP.cells (kl.set u (aP.put (kl.getD u dB) u (((kl.getD u dB).toList.getD u 0)+1)))::Sl mg.bd.qa mg.bd.qc 174 2 bu.cells mg.bd.ql::aB b6 (aK.cells fE) 55::aB b3 (fF.cells xa) 68::aE lO al::L) rfl λo0 e0=>Lo (Ld (Lt (Ls (Dz (dZ [1] (hP 0 3 0 121 (aK.cells mg) e0 Hz) (Zu 7 0 (aK.cells mg) e0 λb5 e1=>Lo (Ld (Lt (Le (Dz (CI 7 e1 ?_))))))))))))))))))))⟩
   have j7:=e1.pl 6
   have j8:St w0 (lO mg::Sl a2 a3 55 121 aK.cells (al++([(mg:aK)]))::Sl (sm b1) 1 55 121 aK.cells ([(mg:aK)])::LS lp (t+1) a5::aB a1 (aK.cells mg) 55::aB wp #[zL kb 0 kl.length kc,.slice a2 ((al++([(mg:aK)])).length) a3,zP lp 0] 35::Sl (sm kb) kc 50 11 aP.cells (kl.set u (aP.put (kl.getD u dB) u (((kl.getD u dB).toList.getD u 0)+1)))::aB b6 (aK.cells mg) 55::aB b3 (fF.cells xa) 68::aE lO al::L) b5:=Bd.close trivial j7
   have j9:=(j8.pl 9).pl 1
   have k0:St w0 (aE lO (al++[mg])::Sl a2 a3 55 121 aK.cells (al++([(mg:aK)]))::Sl (sm b1) 1 55 121 aK.cells ([(mg:aK)])::LS lp (t+1) a5::aB a1 (aK.cells mg) 55::aB wp #[zL kb 0 kl.length kc,.slice a2 ((al++([(mg:aK)])).length) a3,zP lp 0] 35::Sl (sm kb) kc 50 11 aP.cells (kl.set u (aP.put (kl.getD u dB) u (((kl.getD u dB).toList.getD u 0)+1)))::aB b6 (aK.cells mg) 55::aB b3 (fF.cells xa) 68::L) b5:=aE.add j9
   have k1:=(k0.pl 6).pl 6
   have k2:St w0 (aB wp #[zL kb 0 ((kl.set u (aP.put (kl.getD u dB) u (((kl.getD u dB).toList.getD u 0)+1))).length) kc,.slice a2 ((al++[mg]).length) a3,zP lp 0] 35::Sl (sm kb) kc 50 11 aP.cells (kl.set u (aP.put (kl.getD u dB) u (((kl.getD u dB).toList.getD u 0)+1)))::aE lO (al++[mg])::Sl a2 a3 55 121 aK.cells (al++([(mg:aK)]))::Sl (sm b1) 1 55 121 aK.cells ([(mg:aK)])::LS lp (t+1) a5::aB a1 (aK.cells mg) 55::aB b6 (aK.cells mg) 55::aB b3 (fF.cells xa) 68::L) b5:=(by rw [show(kl.set u (aP.put (kl.getD u dB) u (((kl.getD u dB).toList.getD u 0)+1))).length=kl.length from(List.length_set ..)];exact k1)
   have k3:=((((k2.pl 5).pl 3).pl 4).pl 4).pl 4
   have k4:St w0 (WD wp (t+1) (⟨some ⟨kb,0,none⟩,kc,kl.set u (aP.put (kl.getD u dB) u (((kl.getD u dB).toList.getD u 0)+1)),a2,a3,(al++[mg]),lp,a5⟩:EY)::Sl (sm b1) 1 55 121 aK.cells ([(mg:aK)])::aB a1 (aK.cells mg) 55::aB b6 (aK.cells mg) 55::aB b3 (fF.cells xa) 68::L) b5:=Bd.close ⟨by rw [i9];show((kl.set _ _).length:Int)=_;rw [List.length_set];exact hkl,hvk.mono.put za _ za,λm hm=>(List.mem_append.1 hm).elim (hW.hg m) (λh=>by obtain rfl:=List.mem_singleton.1 h;exact hgd),by show(al++[mg]).length <= _;rw [List.length_append];simp only [List.length_cons,List.length_nil];omega⟩ k3
   have k5:=((((k4.pl 0).pl 4).pl 4).pl 4).pl 4
   exact⟨mg,(⟨some ⟨kb,0,none⟩,kc,kl.set u (aP.put (kl.getD u dB) u (((kl.getD u dB).toList.getD u 0)+1)),a2,a3,(al++[mg]),lp,a5⟩:EY),rfl,List.length_set ..,k5.dr 4⟩
end
section
variable {w0 w : World} {L : List bA}
structure MR (w0:World) (L:List bA) (a:fF):Prop where
 ok:Gb a
 ql:a.ql.length <= 1000
 rows:∀ w,St w0 L w -> aC w a.qa a.ql.length 1 (λk=>aD (a.ql.getD k 0))
theorem Pm {w0:World}{L:List bA}{l:List fF}(h:∀ a∈l,MR w0 L a){i:Nat}(hi:i<l.length):MR w0 L (l.getD i wH):=h _ (bJ hi)
theorem Cc {al:Option Addr}{c:Nat}(n:Int) (l:List fF) (hacts:∀ a∈l,MR w0 L a) (hll:l.length <= 40) (hn:0 <= n /\ n <= 255) (hr:Rw w0 L fF.cells 12 wH al l) (hs:St w0 L w):Cs Tryz.prog 6 #[.int .u8 n,.slice al l.length c] w λrv w'=>∃ (wp:Nat) (g2:EY) (kk2:Nat),rv=zP wp 0 /\ g2.kl.length=kk2 /\ (3 <= kk2 /\ kk2 <= 11) /\ (kk2 % 2=1) /\ St w0 (WD wp l.length g2::L) w':=by
 refine dF Tryz.func6 Tryz.ntmps6 (En (Lq (Ls (Lg [1,2] (Lw (Zc (DF n zc hs) ?_))))))
 rintro v5 w6 ⟨a0,rfl,a3,a4,a5⟩
 refine Lo (Dz (Zc (yr a0 (by assumption) (by assumption) a5) ?_))
 rintro b4 b5 ⟨u,g8,rfl,a6,b6,a7⟩
 refine Lz (Ls (Lq (Lb (Dz (aX.loop (T:=Nat×EY×(Option Addr)) (λgg=>[(1,.slice gg.2.2 l.length c),(4,.pointer none),(5,zP u 0),(6,.int .i64 (gg.1:Nat))]) (λgg w=>(gg.1 <= l.length /\ gg.2.1.kl.length=a0 /\ ∀ w,St w0 L w -> aC w gg.2.2 l.length 12 (λq=>fF.cells (l.getD q wH))) /\ St w0 (WD u gg.1 gg.2.1::L) w) (λgg=>l.length-gg.1) (0,g8,al) [1,4,5,6] zk ⟨⟨Nat.zero_le _,a6,hr⟩,a7⟩ ?_)))))
 rintro⟨i,g,aq⟩ a8 ⟨hp,z⟩
 dsimp only at hp z
 have hw:=hp.2.2
 refine En (Ls (Lq (Dz (Zi ((i:Int)<(l.length:Nat)) (λa9=>?_) (λa9=>?_)))))
 ·have hk:i<l.length:=za
  have hai:=Pm hacts hk
  obtain⟨a1,a2,rfl⟩:=aC.isSome (hw _ (z.drop 1)) za
  refine Zk (Zt (Zs (Zb (dZ [5] (Hx 3 (i:Int) (l.length:Int) a1 a2 12 (Hg 4 (.agg (fF.cells (l.getD i wH))) [.prop (Array.size (fF.cells (l.getD i wH))=12),.cells ⟨a1,a2+(i*12),none⟩ (fF.cells (l.getD i wH))] (aJ zk (iN (aC.mj (hw _ (z.drop 1)) (k:=i) zo (Nat.le_of_ble_eq_true zk) zk) aR)) Hz)) (Zc (Gx (l.getD i wH) i g hai.ok hai.ql zc (λw h=>hai.rows _ (h.drop 0)) z) ?_)))))
  rintro b7 b9 ⟨c0,b0,rfl,b1,b2⟩
  exact Lo (Ld (Lm (Lt (Dz (dE (eT 1 ((i:Nat)+1) Hz) (aS.back (i+1,b0,some ⟨a1,a2,none⟩) [1,4,5,6] zk (by show l.length-(i+1)<l.length-i;omega) ⟨⟨za,by rw [b1];exact hp.2.1,hw⟩,b2⟩))))))
 ·refine En (Lx (mM (mN (Lh (Lt (Lq (Le (Dz (bY (v:=zP u 0) ?_)))))))))
  obtain rfl:i=l.length:=za
  have b3:St w0 (WD u l.length g::L) a8:=z
  exact⟨u,g,a0,rfl,hp.2.1,a3,a4,b3⟩
end
end Go.Proofs.YthfpmlpoiocfdaaGreatDoor
