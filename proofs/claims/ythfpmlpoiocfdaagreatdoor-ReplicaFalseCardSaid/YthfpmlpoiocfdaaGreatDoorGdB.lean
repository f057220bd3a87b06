/-
  Several texts in one: RqG, RqJ, RqH, RqI.
-/
import Derived.Test.YthfpmlpoiocfdaaGreatDoorGdA
import Derived.Test.YthfpmlpoiocfdaaGreatDoorGcF
namespace Go.Proofs.YthfpmlpoiocfdaaGreatDoor
open Go.RowKit Go.Sx Go.Ev
set_option linter.unusedVariables false
set_option linter.unusedSimpArgs false
set_option linter.unnecessarySimpa false
set_option maxRecDepth 100000
theorem Oo {k:Nat}(h:3 <= k /\ k <= 11) (h2:k % 2=1):Oi k:=by
 have u:k=3 \/ k=5 \/ k=7 \/ k=9 \/ k=11:=za
 rcases u with rfl|rfl|rfl|rfl|rfl
 ·exact Qv
 ·exact Qw
 ·exact Qx
 ·exact Qy
 ·exact Pj
theorem FR.back {k:Nat}{g:OD}{w w0:World}{L:List bA}(hs:St w0 (FR k g::L) w):St w0 (Mem g.ν (Q9 k)::L) w /\ ∃ c,g.ν 10=some (g.r,c):=by
 obtain⟨hk,h0⟩:=Bd.open hs
 obtain⟨⟨u,z⟩,⟨a1,a0⟩,⟨_,e2⟩,⟨_,a2⟩,⟨_,ec⟩,⟨_,eg⟩,⟨d8,e8⟩,⟨_,e9⟩,⟨_,e6⟩,⟨_,e7⟩⟩:=hk
 refine⟨?_,u,z⟩
 have h1:=Ev.St.Ca (p:=(g.rn,d8)) (us:=[.slice none 0 0,zP g.sa 0,.slice none 0 0,.map (some g.tm)]) (cs:=c8) (h0.pull 6 rfl) (aM rfl (aM (fN e6) (aM rfl (aM (Gw e7) rfl)))) e8
 have h2:=Ev.St.Ca (p:=(g.p,a1)) (us:=[.int .i64 (k:Nat),.slice none 0 0,.slice none 0 0,.slice none 0 0,.slice none 0 0,.slice none 0 0,.slice none 0 0,.slice none 0 0,.slice none 0 0,.slice none 0 0,.slice none 0 0,.slice none 0 0,.slice none 0 0]) (cs:=Qu k) (h1.pull 2 rfl) zk a0
 have h3:=Ev.St.Ca (p:=(g.r,u)) (us:=[.int .i64 (k:Nat),.int .i64 1,zP g.p 0,zP g.wt 0,zP g.lp 0,zP g.cp 0,zP g.gp 0,zP g.rn 0,zP g.wc 0,.slice none 0 0,.slice none 0 0,.int .u64 0]) (cs:=Qt k) (h2.pull 1 rfl) (aM rfl (aM rfl (aM (fN a0) (aM (fN e2) (aM (fN a2) (aM (fN ec) (aM (fN eg) (aM (fN e8) (aM (fN e9) (aM rfl (aM rfl (aM rfl rfl)))))))))))) z
 exact((((((((h3.pull 4 rfl).drop 1).pull 3 rfl).drop 1).pull 2 rfl).drop 1).pull 1 rfl).drop 1)
theorem MW:fC Tryz.prog tabG Oq:=by
 intro g f h avs m r m' ν vs w w0 L hf hG hv hs
 unfold Oq at h
 cases hb:Nat.beq g 5 with
 | false=>rw [hb] at h;exact HJ g f h avs m r m' ν vs w w0 L hf hG hv hs
 | true =>
  rw [hb] at h
  have:=Nat.eq_of_beq_eq_true hb
  subst this
  simp only [cond_true,Option.some.injEq] at h
  subst h
  simp only at hf
  split at hf
  ·simp only [Option.some.injEq,Prod.mk.injEq] at hf
   obtain⟨rfl,rfl⟩:=hf
   simp only [bF,Option.some.injEq] at hv
   subst hv
   refine Calls.ret (nB (hG.frame _) hs) ?_
   rintro v w' ⟨rfl,h2⟩
   exact⟨ν,Nu.le_refl ν,rfl,h2⟩
  ·cases hf
theorem LR {X:eY}(hX:fC Tryz.prog tabG X) (n:Nat) (f:FuncId){fn:Func}{φ:Value->World->Prop}{N t:Nat}{c b:Code}(hfn:Tryz.prog.funcs[f]?=some fn) (hb:fn.body=some b) (hd:∀ x∈mF c,x∈mF b) (hr:fn.results=#[.tmp t]){l:List (Nat×AV)}{m:AM}{v:Value}{r:AV}
 (h:QJ X n f N c l m t=some r) (hv:r.val (λ_=>none)=some v){S:Env}{ν:Nu}{w w0:World}{L:List bA}(hG:nO tabG w0 L) (hl:∀ p∈l,∃ v,p.2.val ν=some v/\S.get p.1=some v) (hs:St w0 (Mem ν m::L) w)
 (hk:∀ w',St w0 L w'->φ v w') (hnr:gK c=true:=by kernel_rfl):aX Tryz.prog (bodyPost Tryz.prog fn (eD φ)) ⟨N,[],none⟩ [] c S w:=by
 intro a hf
 unfold QJ at h
 split at h
 ·rename_i S' m' he
  have hdd:Ef aO f c:=λx hx=>fS f fn b hfn hb x (hd x hx)
  have hwp:=uJ hX fS mix he hnr hdd hG (AD hf l hl) hs
  refine wpIn_mono hwp λe' a' w' hq=>?_
  obtain⟨rfl,ν',k1,k2,k3⟩:=hq
  obtain⟨u,h1,h2⟩:=k2.at_ t r h
  have h3:u=v:=by
   have:=AV.eL (ν:=λ_=>none) (ν':=ν') (λid p hp=>by cases hp) r hv
   rw [this] at h1
   exact(Option.some.inj h1).symm
  subst h3
  exact⟨k2.defers,u,by rw [results_tmp hr,h2],hk w' k3.tail⟩
 ·cases h
section
variable {w0 w : World} {L : List bA} {ad : Option Addr} {c : Nat}
set_option maxHeartbeats 8000000 in
theorem LU (l:List fF) n ci ti ix bi (hacts:∀ a∈l,Gb a /\ Rw w0 L aD 1 0 a.qa a.ql) (hn:0 <= n /\ n <= 255) (hci:0 <= ci /\ ci <= 255) (hti:0 <= ti /\ ti <= 255) (hix:0 <= ix /\ ix <= 255) (hbi:0 <= bi /\ bi <= 255) (hTab:∀ w,St w0 L w -> kA w) (hG:nO tabG w0 L) (hr:Rw w0 L fF.cells 12 wH ad l) (hs:St w0 L w):Cs Tryz.prog 3 #[.int .u8 n,.slice ad l.length c,.int .u8 ci,.int .u8 ti,.int .u8 ix,.int .u8 bi] w λrv w'=>rv=.bool true /\ St w0 L w':=by
 refine dF Tryz.func3 Tryz.ntmps3 (En (Lq (Ls (Ls (Lg [1] (Lw (dJ (f:=4) (args:=#[.slice ad l.length c]) Tryz.call4 (DG l (λw h=>hr _ (h.drop 0)) hs) ?_)))))))
 rintro v4 w5 ⟨a5,rfl,b9,a6⟩
 refine Lo (Dz (Zr 2 2 [] ?_))
 rcases Bool.eq_false_or_eq_true (!a5) with h6|h6
 ·exact nQ 26 true h6 (En (cI (Lt (LT (Ls (Lg [0] (Dz (CH (nB hG a6) λw9 c1=>Lz (Le (Ly (Dz (bY (v:=.bool true) ⟨rfl,c1⟩))))))))))))
 ·refine nQ 26 false h6 (En (cI (Lt (Dz (Zi ((l.length:Int)>40) (λc2=>?_) (λc2=>?_))))))
  ·exact En (Ls (Lg [0] (Dz (CH (nB hG a6) λi4 c3=>Lz (Le (Ly (Dz (bY (v:=.bool true) ⟨rfl,c3⟩))))))))
  ·refine Zk (Zt (Zs ?_))
   have hf:=b9 (by simpa using h6)
   have hai:∀ a∈l,MR w0 L a:=λa ha=>by
    obtain⟨j,hj,rfl⟩:=List.mem_iff_getElem.1 ha
    refine⟨(hacts _ ha).1,?_,(hacts _ ha).2⟩
    have h9:=hf.2 j hj
    rw [List.getD_eq_getElem?_getD,List.getElem?_eq_getElem hj] at h9
    exact Nat.le_trans h9 zb
   refine En (Lg [2] (Lw (dJ (f:=6) (args:=#[.int .u8 n,.slice ad l.length c]) Tryz.call6 (Cc n l hai zc zc (λw h=>hr _ (h.drop 0)) a6) ?_)))
   rintro i5 c4 ⟨a0,c5,i6,rfl,b0,c6,c7,c9⟩
   refine Lz (Ls (Dz ?_))
   obtain⟨ka,kc,kl,aa,ac,al,lw,xw⟩:=c5
   obtain⟨hW,d1⟩:=Bd.open c9
   have b1:St w0 (aB a0 #[.slice ka kl.length kc,.slice aa al.length ac,zP lw 0] 35::Sl ka kc 50 11 aP.cells kl::Sl aa ac 55 121 aK.cells al::aE lO al::LS lw l.length xw::L) c4:=d1
   have halN:al.length <= l.length:=hW.hl
   have hkk:3 <= kl.length /\ kl.length <= 11:=by have h9:=b0;have h8:=c6;have h7:kl.length=_:=h9;omega
   have hko:kl.length % 2=1:=by have h9:=b0;have h8:=c7;have h7:kl.length=_:=h9;omega
   refine dZ [5] (Hl 3 0 0 b1 Hz) (Zc (Pk (Oo hkk hko) (((((hG.frame _).frame _).frame _).frame _).frame _) b1) ?_)
   rintro i7 d2 ⟨d3,rfl,d4⟩
   refine Lz (Ls (Ls (Dz ?_)))
   obtain⟨ν,r,p,wt,wm,lp,cp,gp,rn,wc,sa,tm,tr,tl,tw,tg,tn⟩:=d3
   obtain⟨hok,d5⟩:=Bd.open d4
   have d6:St w0 (Mem ν (tA kl.length)::aB r (RK (kl.length:Nat) p wt lp cp gp rn wc) tr::aB p (RJ (kl.length:Nat)) tl::aB wt #[.map (some wm)] tw::bR gZ gZ wm ([])::aB gp (nR (kl.length:Nat)) tg::aB rn #[.slice none 0 0,zP sa 0,.slice none 0 0,.map (some tm)] tn::bR gY iH tm ([])::aB a0 #[.slice ka kl.length kc,.slice aa al.length ac,zP lw 0] 35::Sl ka kc 50 11 aP.cells kl::Sl aa ac 55 121 aK.cells al::aE lO al::LS lw l.length xw::L) d2:=d5
   refine En (La (Lt (LF (Lk (Lt (Ls (Lg [2,3,4] (Lw (Zc (I9 ci ti zc zc d6) ?_)))))))))
   rintro i8 i9 ⟨a1,rfl,b2,d7,d8⟩
   refine Lo (Dz (tW (bC.cells cP) d8 λa3 j0 d9=>Lo (Dz (Zu 0 0 (bC.cells a1) d9 λj1 b3=>Lo (Ld (Lt (Ls (Dz (dZ [12] (eT 1 ix (Hg 2 (.div (ix % 32)) [.prop (IntKind.i64=IntKind.i64 /\ (32:Int)≠0 /\ Int.tmod ix 32=ix % 32)] (aJ ⟨rfl,zb,Int.tmod_eq_emod_of_nonneg (by first|omega|exact Int.natCast_nonneg _)⟩ aR) (Hx 4 ((ix % 32):Int) (32:Int) a3 8 1 (Hg 5 (.gen [.int .u8 (a1.tg.toList.getD (Int.toNat (ix % 32)) 0)]) [.cell ⟨a3,8+((Int.toNat (ix % 32))*1),none⟩ (.int .u8 (a1.tg.toList.getD (Int.toNat (ix % 32)) 0))] (bE (b3.cell 0 rfl (bW.ry (d:=a1.tg) zk za)) aR) (Hg 7 (.div (bi % 8)) [.prop (IntKind.u8=IntKind.u8 /\ (8:Int)≠0 /\ Int.tmod bi 8=bi % 8)] (aJ ⟨rfl,zb,Int.tmod_eq_emod_of_nonneg (by first|omega|exact Int.natCast_nonneg _)⟩ aR) (Hg 8 (.shift (cD .u8 1 (bi % 8))) [.prop ((0:Int) <= bi % 8 /\ IntKind.u8.wrap (1*2 ^ (min (Int.toNat (bi % 8)) (IntKind.bits .u8)))=cD .u8 1 (bi % 8))] (aJ ⟨(by first|omega|exact bK rfl _),rfl⟩ aR) (Hx 11 ((ix % 32):Int) (32:Int) a3 8 1 Hz))))))) (aL.store rfl rfl zk (b:=a3) (off:=8+((Int.toNat (ix % 32))*1)) (v:=.int .u8 (bX .u8 (a1.tg.toList.getD (Int.toNat (ix % 32)) 0) (cD .u8 1 (bi % 8)))) zk zk (ti:=Tryz.t5) zk b3 0 rfl zk zk (by show 8+((Int.toNat (ix % 32))*1)+1 <= 40;omega) (bC.NY a1 _ za) (L':=(aB a3 (bC.cells (qf a1 (bW.put a1.tg (Int.toNat (ix % 32)) (bX .u8 (a1.tg.toList.getD (Int.toNat (ix % 32)) 0) (cD .u8 1 (bi % 8)))))) 41)::Mem ν (tA kl.length)::aB r (RK (kl.length:Nat) p wt lp cp gp rn wc) tr::aB p (RJ (kl.length:Nat)) tl::aB wt #[.map (some wm)] tw::bR gZ gZ wm ([])::aB gp (nR (kl.length:Nat)) tg::aB rn #[.slice none 0 0,zP sa 0,.slice none 0 0,.map (some tm)] tn::bR gY iH tm ([])::aB a0 #[.slice ka kl.length kc,.slice aa al.length ac,zP lw 0] 35::Sl ka kc 50 11 aP.cells kl::Sl aa ac 55 121 aK.cells al::aE lO al::LS lw l.length xw::L) rfl λe0 e1=>Lo (Ld (Lt (Ls (Dz ?_))))))))))))))
   obtain⟨tq,htq⟩:∃ q:bC,q=(qf a1 (bW.put a1.tg (Int.toNat (ix % 32)) (bX .u8 (a1.tg.toList.getD (Int.toNat (ix % 32)) 0) (cD .u8 1 (bi % 8))))):=⟨_,rfl⟩
   have htg:=Hf b2.tg (i:=Int.toNat (ix % 32)) za (b:=bi % 8) za
   have hqo:mW tq:=by rw [htq];exact KF b2 htg.2
   have hqw:(dC tq && decide (tq.tg=jC tq))=false:=by rw [htq];exact DL d7 htg.1
   have b4:St w0 (aB a3 (bC.cells tq) 41::Mem ν (tA kl.length)::aB r (RK (kl.length:Nat) p wt lp cp gp rn wc) tr::aB p (RJ (kl.length:Nat)) tl::aB wt #[.map (some wm)] tw::bR gZ gZ wm ([])::aB gp (nR (kl.length:Nat)) tg::aB rn #[.slice none 0 0,zP sa 0,.slice none 0 0,.map (some tm)] tn::bR gY iH tm ([])::aB a0 #[.slice ka kl.length kc,.slice aa al.length ac,zP lw 0] 35::Sl ka kc 50 11 aP.cells kl::Sl aa ac 55 121 aK.cells al::aE lO al::LS lw l.length xw::L) e0:=(by rw [htq];exact e1)
   refine dZ [2] (hP 1 0 0 40 (bC.cells tq) b4 Hz) (CH (I6 tq kl.length hqo hqw (λw h=>hTab w (h.drop 11)) (((b4.pl 8).pl 8).pl 4)) λj3 e3=>Lo (Ld (Lt (Ls (Lq (Lb (Dz ?_)))))))
   have e4:=(((((((((((((e3.pl 2).pl 2).pl 8).pl 8).pl 8).pl 8).pl 6).pl 8).pl 13).pl 13).pl 13).pl 13).pl 13).pl 13
   refine aX.loop (T:=Nat×(Option Addr)) (λgg=>[(4,.int .u8 ix),(5,.int .u8 bi),(13,zP a0 0),(14,zP r 0),(17,.int .i64 (gg.1:Nat))]) (λgg w=>True /\ St w0 (aB a0 #[.slice ka kl.length kc,.slice gg.2 al.length ac,zP lw 0] 35::Sl ka kc 50 11 aP.cells kl::Sl gg.2 ac 55 121 aK.cells al::aE lO al::LS lw l.length xw::Mem ν (tA kl.length)::aB r (RK (kl.length:Nat) p wt lp cp gp rn wc) tr::aB p (RJ (kl.length:Nat)) tl::aB wt #[.map (some wm)] tw::bR gZ gZ wm ([])::aB gp (nR (kl.length:Nat)) tg::aB rn #[.slice none 0 0,zP sa 0,.slice none 0 0,.map (some tm)] tn::bR gY iH tm ([])::L) w) (λgg=>al.length-gg.1) (0,aa) [4,5,13,14,17] zk ⟨trivial,e4.dr 1⟩ ?_
   rintro⟨i,aq⟩ a7 ⟨hp,a4⟩
   dsimp only at hp a4
   refine Zs (Zs (dE (Hl 4 0 1 a4 Hz) (Zt (Zi ((i:Int)<(al.length:Nat)) (λe6=>?_) (λe6=>?_)))))
   ·have hk:i<al.length:=za
    have hgd:DE (al.getD i fE):=hW.hg _ (bJ hk)
    obtain⟨u,rfl⟩:=Sl.isSome (a4.at_ 2 rfl) za
    have e7:=a4.pl 3
    have e8:St w0 (lO (al.getD i fE)::aE lO (al.eraseIdx i)::aB a0 #[.slice ka kl.length kc,zL u 0 al.length ac,zP lw 0] 35::Sl ka kc 50 11 aP.cells kl::Sl (sm u) ac 55 121 aK.cells al::LS lw l.length xw::Mem ν (tA kl.length)::aB r (RK (kl.length:Nat) p wt lp cp gp rn wc) tr::aB p (RJ (kl.length:Nat)) tl::aB wt #[.map (some wm)] tw::bR gZ gZ wm ([])::aB gp (nR (kl.length:Nat)) tg::aB rn #[.slice none 0 0,zP sa 0,.slice none 0 0,.map (some tm)] tn::bR gY iH tm ([])::L) a7:=aE.take fE za e7
    obtain⟨_,e9⟩:=Bd.open e8
    have a8:St w0 (Sl ((al.getD i fE).bd.qa) ((al.getD i fE).bd.qc) 174 2 bu.cells ((al.getD i fE).bd.ql)::aE lO (al.eraseIdx i)::aB a0 #[.slice ka kl.length kc,zL u 0 al.length ac,zP lw 0] 35::Sl ka kc 50 11 aP.cells kl::Sl (sm u) ac 55 121 aK.cells al::LS lw l.length xw::Mem ν (tA kl.length)::aB r (RK (kl.length:Nat) p wt lp cp gp rn wc) tr::aB p (RJ (kl.length:Nat)) tl::aB wt #[.map (some wm)] tw::bR gZ gZ wm ([])::aB gp (nR (kl.length:Nat)) tg::aB rn #[.slice none 0 0,zP sa 0,.slice none 0 0,.map (some tm)] tn::bR gY iH tm ([])::L) a7:=e9
    refine Zk (Zt (Zs (Zb (Zs (dZ [7,8] (Hl 3 2 1 a8 (Hx 5 (i:Int) (al.length:Int) u 0 121 (Hg 6 (.agg (aK.cells (al.getD i fE))) [.prop (Array.size (aK.cells (al.getD i fE))=121),.cells ⟨u,0+(i*121),none⟩ (aK.cells (al.getD i fE))] (aJ zk (iN (aC.mj (a8.rows 4 rfl JR.size fE) (k:=i) zo (Nat.le_of_ble_eq_true zk) zk) aR)) Hz))) (tW (aK.cells fE) a8 λa2 j4 f0=>Lo (Dz (Zu 0 0 (aK.cells (al.getD i fE)) f0 λj5 b5=>Lo (Ld (Lt (Ls (Dz (dZ [12] (eT 1 ix (Hg 2 (.div (ix % 32)) [.prop (IntKind.i64=IntKind.i64 /\ (32:Int)≠0 /\ Int.tmod ix 32=ix % 32)] (aJ ⟨rfl,zb,Int.tmod_eq_emod_of_nonneg (by first|omega|exact Int.natCast_nonneg _)⟩ aR) (Hx 4 ((ix % 32):Int) (32:Int) a2 89 1 (Hg 5 (.gen [.int .u8 ((al.getD i fE).tg.toList.getD (Int.toNat (ix % 32)) 0)]) [.cell ⟨a2,89+((Int.toNat (ix % 32))*1),none⟩ (.int .u8 ((al.getD i fE).tg.toList.getD (Int.toNat (ix % 32)) 0))] (bE (b5.cell 0 rfl (bW.ry (d:=(al.getD i fE).tg) zk za)) aR) (Hg 7 (.div (bi % 8)) [.prop (IntKind.u8=IntKind.u8 /\ (8:Int)≠0 /\ Int.tmod bi 8=bi % 8)] (aJ ⟨rfl,zb,Int.tmod_eq_emod_of_nonneg (by first|omega|exact Int.natCast_nonneg _)⟩ aR) (Hg 8 (.shift (cD .u8 1 (bi % 8))) [.prop ((0:Int) <= bi % 8 /\ IntKind.u8.wrap (1*2 ^ (min (Int.toNat (bi % 8)) (IntKind.bits .u8)))=cD .u8 1 (bi % 8))] (aJ ⟨(by first|omega|exact bK rfl _),rfl⟩ aR) (Hx 11 ((ix % 32):Int) (32:Int) a2 89 1 Hz))))))) (aL.store rfl rfl zk (b:=a2) (off:=89+((Int.toNat (ix % 32))*1)) (v:=.int .u8 (bX .u8 ((al.getD i fE).tg.toList.getD (Int.toNat (ix % 32)) 0) (cD .u8 1 (bi % 8)))) zk zk (ti:=Tryz.t5) zk b5 0 rfl zk zk (by show 89+((Int.toNat (ix % 32))*1)+1 <= 121;omega) (aK.NY (al.getD i fE) _ za) (L':=(aB a2 (aK.cells (ur (al.getD i fE) (bW.put (al.getD i fE).tg (Int.toNat (ix % 32)) (bX .u8 ((al.getD i fE).tg.toList.getD (Int.toNat (ix % 32)) 0) (cD .u8 1 (bi % 8)))))) 55)::Sl ((al.getD i fE).bd.qa) ((al.getD i fE).bd.qc) 174 2 bu.cells ((al.getD i fE).bd.ql)::aE lO (al.eraseIdx i)::aB a0 #[.slice ka kl.length kc,zL u 0 al.length ac,zP lw 0] 35::Sl ka kc 50 11 aP.cells kl::Sl (sm u) ac 55 121 aK.cells al::LS lw l.length xw::Mem ν (tA kl.length)::aB r (RK (kl.length:Nat) p wt lp cp gp rn wc) tr::aB p (RJ (kl.length:Nat)) tl::aB wt #[.map (some wm)] tw::bR gZ gZ wm ([])::aB gp (nR (kl.length:Nat)) tg::aB rn #[.slice none 0 0,zP sa 0,.slice none 0 0,.map (some tm)] tn::bR gY iH tm ([])::L) rfl λf1 f2=>Lo (Ld (Lt (Ls (Dz ?_))))))))))))))))))
    obtain⟨mt,hmt⟩:∃ q:aK,q=(ur (al.getD i fE) (bW.put (al.getD i fE).tg (Int.toNat (ix % 32)) (bX .u8 ((al.getD i fE).tg.toList.getD (Int.toNat (ix % 32)) 0) (cD .u8 1 (bi % 8))))):=⟨_,rfl⟩
    have b6:=Hf hgd.ok.tg (i:=Int.toNat (ix % 32)) za (b:=bi % 8) za
    have hmo:lP mt:=by rw [hmt];exact KE hgd.ok b6.2
    have hmw:kD mt=false:=by rw [hmt];exact DJ hgd b6.1
    have hmq:mt.bd.ql.length <= 100000:=by rw [hmt];exact Nat.le_trans (He hgd.may) zb
    have b7:St w0 (aB a2 (aK.cells mt) 55::Sl mt.bd.qa mt.bd.qc 174 2 bu.cells mt.bd.ql::aE lO (al.eraseIdx i)::aB a0 #[.slice ka kl.length kc,zL u 0 al.length ac,zP lw 0] 35::Sl ka kc 50 11 aP.cells kl::Sl (sm u) ac 55 121 aK.cells al::LS lw l.length xw::Mem ν (tA kl.length)::aB r (RK (kl.length:Nat) p wt lp cp gp rn wc) tr::aB p (RJ (kl.length:Nat)) tl::aB wt #[.map (some wm)] tw::bR gZ gZ wm ([])::aB gp (nR (kl.length:Nat)) tg::aB rn #[.slice none 0 0,zP sa 0,.slice none 0 0,.map (some tm)] tn::bR gY iH tm ([])::L) f1:=(by rw [hmt];exact f2)
    refine dZ [2,4] (hP 1 0 0 121 (aK.cells mt) b7 Hz) (aL.bU rfl zk (t:=32) (e:=55) (n:=1) (ps:=[(0,.agg (aK.cells mt))]) zk zk (ti:=Tryz.t55) (z:=.agg (aK.cells fE)) zk zk zb zb (cs:=aK.cells mt) zk b7 λf4 f5 f6 f7=>?_)
    have f8:St w0 (Sl (sm f4) 1 55 121 aK.cells ([(mt:aK)])::aB a2 (aK.cells mt) 55::Sl mt.bd.qa mt.bd.qc 174 2 bu.cells mt.bd.ql::aE lO (al.eraseIdx i)::aB a0 #[.slice ka kl.length kc,zL u 0 al.length ac,zP lw 0] 35::Sl ka kc 50 11 aP.cells kl::Sl (sm u) ac 55 121 aK.cells al::LS lw l.length xw::Mem ν (tA kl.length)::aB r (RK (kl.length:Nat) p wt lp cp gp rn wc) tr::aB p (RJ (kl.length:Nat)) tl::aB wt #[.map (some wm)] tw::bR gZ gZ wm ([])::aB gp (nR (kl.length:Nat)) tg::aB rn #[.slice none 0 0,zP sa 0,.slice none 0 0,.map (some tm)] tn::bR gY iH tm ([])::L) f5:=St.iw (l:=[(mt:aK)]) (f:=aK.cells) f6 f7 JR.size zf zk
    refine Lo (Lw (CH (Ga mt kl.length hmo hmq hkk hmw (λw h=>hTab w (h.drop 10)) (λw h=>h.rows 1 rfl sF.size _) ((((((f8.pl 0).pl 13).pl 13).pl 13).pl 13).pl 13)) λa9 g0=>Lz (Lq (LF (Lk (Lm (Lt (Dz (dE (eT 1 ((i:Nat)+1) Hz) ?_)))))))))
    have g5:=((((((((((((((g0.pl 14).pl 14).pl 6).pl 6).pl 6).pl 6).pl 6).pl 14).pl 14).pl 11).pl 14).pl 14).pl 14).pl 14).pl 14
    have g9:=g5.dr 1
    have h1:St w0 (Sl ((al.getD i fE).bd.qa) ((al.getD i fE).bd.qc) 174 2 bu.cells ((al.getD i fE).bd.ql)::aB a0 #[.slice ka kl.length kc,zL u 0 al.length ac,zP lw 0] 35::Sl ka kc 50 11 aP.cells kl::Sl (sm u) ac 55 121 aK.cells al::aE lO (al.eraseIdx i)::LS lw l.length xw::Mem ν (tA kl.length)::aB r (RK (kl.length:Nat) p wt lp cp gp rn wc) tr::aB p (RJ (kl.length:Nat)) tl::aB wt #[.map (some wm)] tw::bR gZ gZ wm ([])::aB gp (nR (kl.length:Nat)) tg::aB rn #[.slice none 0 0,zP sa 0,.slice none 0 0,.map (some tm)] tn::bR gY iH tm ([])::L) a9:=(by have h9:=g9;rw [hmt] at h9;exact h9)
    have h2:St w0 (lO (al.getD i fE)::aB a0 #[.slice ka kl.length kc,zL u 0 al.length ac,zP lw 0] 35::Sl ka kc 50 11 aP.cells kl::Sl (sm u) ac 55 121 aK.cells al::aE lO (al.eraseIdx i)::LS lw l.length xw::Mem ν (tA kl.length)::aB r (RK (kl.length:Nat) p wt lp cp gp rn wc) tr::aB p (RJ (kl.length:Nat)) tl::aB wt #[.map (some wm)] tw::bR gZ gZ wm ([])::aB gp (nR (kl.length:Nat)) tg::aB rn #[.slice none 0 0,zP sa 0,.slice none 0 0,.map (some tm)] tn::bR gY iH tm ([])::L) a9:=Bd.close trivial h1
    have h3:=(h2.pl 4).pl 1
    have h4:St w0 (aE lO al::aB a0 #[.slice ka kl.length kc,zL u 0 al.length ac,zP lw 0] 35::Sl ka kc 50 11 aP.cells kl::Sl (sm u) ac 55 121 aK.cells al::LS lw l.length xw::Mem ν (tA kl.length)::aB r (RK (kl.length:Nat) p wt lp cp gp rn wc) tr::aB p (RJ (kl.length:Nat)) tl::aB wt #[.map (some wm)] tw::bR gZ gZ wm ([])::aB gp (nR (kl.length:Nat)) tg::aB rn #[.slice none 0 0,zP sa 0,.slice none 0 0,.map (some tm)] tn::bR gY iH tm ([])::L) a9:=aE.jK fE za h3
    exact aS.back (i+1,some ⟨u,0,none⟩) [4,5,13,14,17] zk (by show al.length-(i+1)<al.length-i;omega) ⟨trivial,((((((((((((h4.pl 12).pl 12).pl 12).pl 12).pl 12).pl 12).pl 12).pl 12).pl 12).pl 9).pl 12).pl 12).pl 12⟩
   ·refine Zx (aS.eQ (aS.eR (aS.kI (Zt ?_))))
    have i0:=a4.dr 5
    have i1:St w0 (FR kl.length (⟨ν,r,p,wt,wm,lp,cp,gp,rn,wc,sa,tm,tr,tl,tw,tg,tn⟩:OD)::L) a7:=Bd.close hok i0
    obtain⟨i2,cr,er⟩:=FR.back i1
    refine LR (c:=PE) MW 100000 3 (fn:=Tryz.f3) (t:=12) Tryz.func3 rfl (λx hx=>by revert hx;exact(λh=>h)) rfl (MX hkk hko) rfl hG (λp hp=>?_) i2 (λw' h=>⟨rfl,h⟩)
    obtain rfl:=List.mem_singleton.1 hp
    exact⟨_,fN er,zk⟩
end
end Go.Proofs.YthfpmlpoiocfdaaGreatDoor
namespace Go.Proofs.YthfpmlpoiocfdaaGreatDoor
open Go.RowKit Go.Sx Go.Deep Go.Ev
set_option linter.unusedVariables false
set_option linter.unusedSimpArgs false
set_option linter.unnecessarySimpa false
set_option maxRecDepth 100000
variable {ad : Option Addr}
def PJ (W:World) (T:TypeId -> Value -> Prop):Prop:=∀ ad n c,T 66 (.slice ad n c) -> ∃ l:List Int,l.length=n /\ (∀ z∈l,0 <= z /\ z<256) /\ (ad=none -> c=0) /\ aC W ad l.length 1 (λk=>aD (l.getD k 0))
abbrev Ra:List GK:=[.int .u8,.int .u8,.bool,.bool,.int .u8,.int .u8,.int .u8,.int .u8,.int .u8,.int .u8,.sl 66,.bool]
def MZ (W:World) (a:fF):Prop:=Gb a /\ aC W a.qa a.ql.length 1 (λk=>aD (a.ql.getD k 0))
theorem fF.of {T:TypeId -> Value -> Prop}{vs:List Value}{W:World}(hB:PJ W T) (h:lL T Ra vs):∃ a:fF,vs=(fF.cells a).toList /\ MZ W a:=by
 obtain⟨_,r0,rfl,⟨u,rfl,w⟩,g0⟩:=eE h
 obtain⟨_,r1,rfl,⟨n1,rfl,w1⟩,g1⟩:=eE g0
 obtain⟨_,r2,rfl,⟨n2,rfl⟩,g2⟩:=eE g1
 obtain⟨_,r3,rfl,⟨n3,rfl⟩,g3⟩:=eE g2
 obtain⟨_,r4,rfl,⟨n4,rfl,w4⟩,g4⟩:=eE g3
 obtain⟨_,r5,rfl,⟨n5,rfl,w5⟩,g5⟩:=eE g4
 obtain⟨_,r6,rfl,⟨n6,rfl,w6⟩,g6⟩:=eE g5
 obtain⟨_,r7,rfl,⟨n7,rfl,w7⟩,g7⟩:=eE g6
 obtain⟨_,r8,rfl,⟨n8,rfl,w8⟩,g8⟩:=eE g7
 obtain⟨_,r9,rfl,⟨n9,rfl,w9⟩,g9⟩:=eE g8
 obtain⟨_,ra,rfl,⟨ad,n,c,rfl,ta⟩,ga⟩:=eE g9
 obtain⟨l,rfl,b1,b2,b3⟩:=hB _ _ _ ta
 obtain⟨_,rb,rfl,⟨nb,rfl⟩,gb⟩:=eE ga
 obtain rfl:=AH gb
 exact⟨⟨u,n1,n2,n3,n4,n5,n6,n7,n8,n9,ad,c,l,nb⟩,rfl,⟨wf_u8 w,wf_u8 w1,wf_u8 w4,wf_u8 w5,wf_u8 w6,wf_u8 w7,wf_u8 w8,wf_u8 w9,λz hz=>by have:=b1 z hz;omega⟩,b3⟩
section
variable {H : Type} {enc : TypeId × Value -> H} {w : World} {base : Nat} {spare : Nat -> Bool} {held : Bool}
theorem M0:PJ w (Ou enc Tryz.prog w base spare held):=λad n c ⟨d,ps,h⟩=>by
 have h0:ad=none -> c=0:=λe=>by
  subst e
  obtain⟨fuel,hf⟩:=h
  rcases open_slice Tryz.underlying66 hf with⟨hcs,_⟩|⟨a,len,cap,mm,nn,D,Pl,hcs,_⟩
  ·simp [Value.cells] at hcs;exact hcs.2
  ·simp [Value.cells] at hcs
 obtain⟨-,cell,hr,hc⟩:=xX (m:=8) (ks:=[.int .u8]) Tryz.underlying66 zk zk zb h
 obtain⟨l,hl,hp,hw⟩:=pV (0:Int) (f:=aD) (λz=>0 <= z /\ z<256) hr (λk hk=>by
  have g:=hc k hk
  generalize cell k=cs at g ⊢
  obtain⟨vs⟩:=cs
  obtain⟨_,r0,rfl,⟨n0,rfl,w0⟩,g1⟩:=eE g
  obtain rfl:=AH g1
  exact⟨n0,by have:=wf_u8 w0;omega,rfl⟩)
 exact⟨l,hl,hp,h0,hw⟩
theorem Jo {n c:Nat}{d:DataW H}{ps:List MemPlace}(h:DataW.Trod enc Tryz.prog w base spare held 22 (.slice ad n c) d ps):∃ l:List fF,l.length=n /\ (∀ b∈l,MZ w b) /\ aC w ad l.length 12 (λk=>fF.cells (l.getD k wH)):=by
 obtain⟨-,cell,hr,hc⟩:=xX (m:=8) (ks:=Ra) Tryz.underlying22 zk zk zb h
 obtain⟨l,hl,hp,hw⟩:=pV wH (f:=fF.cells) (MZ w) hr (λk hk=>by
  have g:=hc k hk
  generalize cell k=cs at g ⊢
  obtain⟨vs⟩:=cs
  obtain⟨m,rfl,u⟩:=fF.of M0 g
  exact⟨m,u,rfl⟩)
 exact⟨l,hl,hp,hw⟩
end
theorem St.xD {W w:World}{L:List bA}(hs:St W L w){j:Nat}(hj:L[j]?=some (AQ W)) (hT:kA W):kA w:=aC.base hT (λk _=>bB.size _) hs j hj
theorem GB (W:World) (hG:Ev.Glob tabG W /\ kA W){n ci ti ix bi:Int}(h0:0 <= n /\ n <= 255) (h1:0 <= ci /\ ci <= 255) (h2:0 <= ti /\ ti <= 255) (h3:0 <= ix /\ ix <= 255) (h4:0 <= bi /\ bi <= 255){ad:Option Addr}{c:Nat}(l:List fF) (hl:∀ b∈l,MZ W b) (r:aC W ad l.length 12 (λk=>fF.cells (l.getD k wH))) :
 Calls Tryz.prog 3 #[.int .u8 n,.slice ad l.length c,.int .u8 ci,.int .u8 ti,.int .u8 ix,.int .u8 bi] W (eD λrv w'=>rv=.bool true /\ Below W.heap.size W w'):=by
 refine Calls.ret (LU (w0:=W) (L:=[AQ W]) l n ci ti ix bi (λb hb=>⟨(hl b hb).1,λw h=>(hl b hb).2.base (λk _=>aF.size _) h 0 rfl⟩) h0 h1 h2 h3 h4 (λw h=>St.xD h (j:=0) rfl hG.2) (LJ hG.1 zw) (λw h=>r.base (λk _=>Qo.size _) h 0 rfl) (Sx.St.start W)) ?_
 rintro rv w' ⟨rfl,h⟩
 exact⟨rfl,h.below 0 rfl⟩
end Go.Proofs.YthfpmlpoiocfdaaGreatDoor
