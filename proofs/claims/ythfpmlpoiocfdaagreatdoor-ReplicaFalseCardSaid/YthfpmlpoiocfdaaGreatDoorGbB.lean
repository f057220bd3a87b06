/-
  Several texts in one: WdD, WdE.
-/
import Derived.Test.YthfpmlpoiocfdaaGreatDoorGbA
namespace Go.Proofs.YthfpmlpoiocfdaaGreatDoor
open Go.RowKit Go.Sx
set_option linter.unusedVariables false
set_option linter.unusedSimpArgs false
set_option linter.unnecessarySimpa false
set_option maxRecDepth 100000
section
variable {w0 w : World} {L : List bA}
theorem yq {al:Option Addr}{c:Nat}(l:List bC) ck tm (hll:l.length <= 100000) (hr:Rw w0 L bC.cells 40 cP al l) (hs:St w0 L w):Cs Tryz.prog 165 #[.slice al l.length c,.int .i64 ck,.int .u64 tm] w λrv w'=>∃ ob2,rv=.bool ob2 /\ St w0 L w':=by
 refine dF Tryz.func165 Tryz.ntmps165 (En (Lq (Ls (Lq (Lb (Dz (aX.loop (T:=Nat×(Option Addr)) (λgg=>[(0,.slice gg.2 l.length c),(1,.int .i64 ck),(2,.int .u64 tm),(7,.int .i64 (gg.1:Nat))]) (λgg w=>(gg.1 <= l.length /\ ∀ w,St w0 L w -> aC w gg.2 l.length 40 (λq=>bC.cells (l.getD q cP))) /\ St w0 L w) (λgg=>l.length-gg.1) (0,al) [0,1,2,7] zk ⟨⟨Nat.zero_le _,hr⟩,hs⟩ ?_)))))))
 rintro⟨i,aq⟩ w1 ⟨hp,a0⟩
 dsimp only at hp a0
 have hw:=hp.2
 refine En (Ls (Lq (Dz (Zi ((i:Int)<(l.length:Nat)) (λa3=>?_) (λa3=>?_)))))
 ·have hk:i<l.length:=za
  obtain⟨u,z,rfl⟩:=aC.isSome (hw _ (a0.drop 0)) za
  refine Zk (Zt (Zs (Zb (Zs (aX.join (T:=Unit) (E:=λ_=>[(29,.bool (((((l.getD i cP).cl):Int) == ck) && ((((l.getD i cP).tm):Int) == tm))),(0,zL u z l.length c),(1,.int .i64 ck),(2,.int .u64 tm),(7,.int .i64 (i:Nat))]) (F:=λ_ w=>St w0 L w) ?_ ?_)))))
  ·refine Zg [] (Zp 0 8 [(2,.dH (zP u (z+(i*40))) .at_),(4,.gen [.int .i64 ((l.getD i cP).cl)])] [(2,[.prop (0 <= (i:Int) /\ (i:Int)<(l.length:Int)),.prop (Value.pointer (some (Addr.add ⟨u,z,none⟩ (Int.toNat (i:Nat)*40)))=Value.pointer (some ⟨u,z+(i*40),none⟩))]),(4,[.cell ⟨u,z+(i*40),none⟩ (.int .i64 ((l.getD i cP).cl))])] (ak (aJ za (aJ (aU _ _ _) aR)) (ak (bE (aC.cV (hw _ (a0.drop 0)) (k:=i) zo (j:=0) zb zk) aR) iF)) (iy 21 ((((l.getD i cP).cl):Int) == ck) (λh7=>?_) (λh7=>?_)))
   ·exact kV (Hx 10 (i:Int) (l.length:Int) u z 40 (Hg 12 (.gen [.int .u64 ((l.getD i cP).tm)]) [.cell ⟨u,z+(i*40)+1,none⟩ (.int .u64 ((l.getD i cP).tm))] (bE (aC.cV (hw _ (a0.drop 0)) (k:=i) zo (j:=1) zb zk) aR) Hz)) (aS.pick [29,0,1,2,7] (S':=[(29,.bool ((((l.getD i cP).tm):Int) == tm)),(0,zL u z l.length c),(1,.int .i64 ck),(2,.int .u64 tm),(7,.int .i64 (i:Nat))]) zk (aS.eF () (by first|rfl|(simp only [h7,Bool.not_true,Bool.not_false,Bool.true_or,Bool.false_or,Bool.true_and,Bool.false_and,Bool.or_true,Bool.or_false,Bool.and_true,Bool.and_false];done)|(simp [h7];done)) a0))
   ·exact En (cI (Dz (aS.pick [29,0,1,2,7] (S':=[(29,.bool false),(0,zL u z l.length c),(1,.int .i64 ck),(2,.int .u64 tm),(7,.int .i64 (i:Nat))]) zk (aS.eF () (by first|rfl|(simp only [h7,Bool.not_true,Bool.not_false,Bool.true_or,Bool.false_or,Bool.true_and,Bool.false_and,Bool.or_true,Bool.or_false,Bool.and_true,Bool.and_false];done)|(simp [h7];done)) a0))))
  intro _ w8 a2
  refine Zt (eZ (t:=((((l.getD i cP).cl):Int) == ck) && ((((l.getD i cP).tm):Int) == tm)) (λa1=>?_) (λa1=>?_))
  ·have a5:=(Bool.and_eq_true_iff.1 a1).1
   have a6:((((l.getD i cP).tm):Int) == tm)=true:=(Bool.and_eq_true_iff.1 a1).2
   exact En (Lq (Le (Ll (Ly (E5 (Ll (Ly (Dz (bY (v:=.bool true) ⟨true,rfl,a2⟩)))))))))
  ·exact Zk (Zm (Zt (dE (eT 1 ((i:Nat)+1) Hz) (aS.back (i+1,some ⟨u,z,none⟩) [0,1,2,7] zk (by show l.length-(i+1)<l.length-i;omega) ⟨⟨za,hw⟩,a2⟩))))
 ·exact En (Lx (mM (mN (Lh (Lt (Lq (Le (Dz (bY (v:=.bool false) ⟨false,rfl,a0⟩)))))))))
theorem uR {lp:Nat}{vb:Nat}{vc:Nat}{wb:Nat}{wc:Nat}{cb:Nat}{cc:Nat}{n:Int}{kn:aP}{vl:List aT}{wl:List bD}{cl:List bT} q v (hcl:(cl.length:Int)=n) (hn:3 <= n /\ n <= 11) (hq:1 <= q.rp /\ q.rp <= n) (hgl:∀ y∈cl,y.cl.length <= 100000) (hs:St w0 (aB lp (aQ.cells (RF n kn vb vc vl wb wc wl cb cc cl)) 214::Sl (sm cb) cc 287 1 bT.cells cl::aE cF cl::L) w):Cs Tryz.prog 224 #[zP lp 0,.agg (bu.cells q),.int .u64 v] w λrv w'=>∃ ob2,rv=.bool ob2 /\ St w0 (aB lp (aQ.cells (RF n kn vb vc vl wb wc wl cb cc cl)) 214::Sl (sm cb) cc 287 1 bT.cells cl::aE cF cl::L) w':=by
 have a9:=hs.pl 2
 have b0:St w0 (cF (cl.getD (Int.toNat (q.rp-1)) cE)::aE cF (cl.eraseIdx (Int.toNat (q.rp-1)))::aB lp (aQ.cells (RF n kn vb vc vl wb wc wl cb cc cl)) 214::Sl (sm cb) cc 287 1 bT.cells cl::L) w:=aE.take cE za a9
 obtain⟨_,a4⟩:=Bd.open b0
 have b1:St w0 (Sl ((cl.getD (Int.toNat (q.rp-1)) cE).ca) ((cl.getD (Int.toNat (q.rp-1)) cE).cc) 289 2 dY.cells ((cl.getD (Int.toNat (q.rp-1)) cE).cl)::aE cF (cl.eraseIdx (Int.toNat (q.rp-1)))::aB lp (aQ.cells (RF n kn vb vc vl wb wc wl cb cc cl)) 214::Sl (sm cb) cc 287 1 bT.cells cl::L) w:=a4
 have d4:=hgl _ (bJ (d:=cE) (show Int.toNat (q.rp-1)<cl.length by omega))
 refine dF Tryz.func224 Tryz.ntmps224 (En (Ls (Lg [0] (Dz (mT (bu.cells q) b1 λu w5 b2=>Lz (Ls (Dz (ZD (gE [0,1,2,3,4,5,6,7,8,9] .done) b2 λw7 a2 d5=>kV (Hl 3 3 14 a2 (Hl 5 0 0 a2 (eT 6 (q.rp-1) (Hx 7 ((q.rp-1):Int) (cl.length:Int) cb 0 1 (Hg 8 (.gen [.slice ((cl.getD (Int.toNat (q.rp-1)) cE).ca) ((cl.getD (Int.toNat (q.rp-1)) cE).cl.length) ((cl.getD (Int.toNat (q.rp-1)) cE).cc)]) [.cell ⟨cb,0+((Int.toNat (q.rp-1))*1),none⟩ (.slice ((cl.getD (Int.toNat (q.rp-1)) cE).ca) ((cl.getD (Int.toNat (q.rp-1)) cE).cl.length) ((cl.getD (Int.toNat (q.rp-1)) cE).cc))] (bE (aC.cV (a2.rows 4 rfl Dy.size cE) (k:=Int.toNat (q.rp-1)) zo (j:=0) zb zk) aR) Hz))))) (En (Lt (Ls (Lq (Lb (Dz ?_))))))))))))))
 obtain⟨ga,hga⟩:∃ a,a=(cl.getD (Int.toNat (q.rp-1)) cE).ca:=⟨_,rfl⟩
 refine aX.loop (T:=Nat×(Option Addr)) (λgg=>[(2,.int .u64 v),(4,zP u 0),(7,.slice gg.2 ((cl.getD (Int.toNat (q.rp-1)) cE).cl.length) ((cl.getD (Int.toNat (q.rp-1)) cE).cc)),(8,.int .i64 (gg.1:Nat))]) (λgg w=>(gg.1 <= (cl.getD (Int.toNat (q.rp-1)) cE).cl.length /\ gg.2=ga) /\ St w0 (aB u (bu.cells q) 174::Sl gg.2 ((cl.getD (Int.toNat (q.rp-1)) cE).cc) 289 2 dY.cells ((cl.getD (Int.toNat (q.rp-1)) cE).cl)::aE cF (cl.eraseIdx (Int.toNat (q.rp-1)))::aB lp (aQ.cells (RF n kn vb vc vl wb wc wl cb cc cl)) 214::Sl (sm cb) cc 287 1 bT.cells cl::L) w) (λgg=>(cl.getD (Int.toNat (q.rp-1)) cE).cl.length-gg.1) (0,((cl.getD (Int.toNat (q.rp-1)) cE).ca)) [2,4,7,8] zk ⟨⟨Nat.zero_le _,hga.symm⟩,a2⟩ ?_
 rintro⟨i,aq⟩ a5 ⟨hp,a3⟩
 dsimp only at hp a3
 refine En (Ls (Lq (Dz (Zi ((i:Int)<((cl.getD (Int.toNat (q.rp-1)) cE).cl.length:Nat)) (λb3=>?_) (λb3=>?_)))))
 ·have hk:i<(cl.getD (Int.toNat (q.rp-1)) cE).cl.length:=za
  obtain⟨z,rfl⟩:=Sl.isSome (a3.at_ 1 rfl) za
  refine Zk (Zt (Zs (Zb (Zs (aX.join (T:=Unit) (E:=λ_=>[(40,.bool (((((((cl.getD (Int.toNat (q.rp-1)) cE).cl).getD i nL).vw):Int) == v) && ((((((cl.getD (Int.toNat (q.rp-1)) cE).cl).getD i nL).nm):Int) == q.nm))),(2,.int .u64 v),(4,zP u 0),(7,zL z 0 ((cl.getD (Int.toNat (q.rp-1)) cE).cl.length) ((cl.getD (Int.toNat (q.rp-1)) cE).cc)),(8,.int .i64 (i:Nat))]) (F:=λ_ w=>St w0 (aB u (bu.cells q) 174::Sl (sm z) ((cl.getD (Int.toNat (q.rp-1)) cE).cc) 289 2 dY.cells ((cl.getD (Int.toNat (q.rp-1)) cE).cl)::aE cF (cl.eraseIdx (Int.toNat (q.rp-1)))::aB lp (aQ.cells (RF n kn vb vc vl wb wc wl cb cc cl)) 214::Sl (sm cb) cc 287 1 bT.cells cl::L) w) ?_ ?_)))))
  ·refine ZD (gE [0,1,2,3,4,5,6,7,8,9,10,11,12,13,14,15,16] .done) a3 λd6 a1 d7=>Zp 0 8 [(2,.dH (zP z (0+(i*2))) .at_),(4,.gen [.int .u64 ((((cl.getD (Int.toNat (q.rp-1)) cE).cl).getD i nL).vw)])] [(2,[.prop (0 <= (i:Int) /\ (i:Int)<(((cl.getD (Int.toNat (q.rp-1)) cE).cl.length:Nat):Int)),.prop (Value.pointer (some (Addr.add ⟨z,0,none⟩ (Int.toNat (i:Nat)*2)))=Value.pointer (some ⟨z,0+(i*2),none⟩))]),(4,[.cell ⟨z,0+(i*2),none⟩ (.int .u64 ((((cl.getD (Int.toNat (q.rp-1)) cE).cl).getD i nL).vw))])] (ak (aJ za (aJ (aU _ _ _) aR)) (ak (bE (aC.cV (a1.rows 1 rfl F3.size nL) (k:=i) zo (j:=0) zb zk) aR) iF)) (iy 31 ((((((cl.getD (Int.toNat (q.rp-1)) cE).cl).getD i nL).vw):Int) == v) (λa0=>?_) (λa0=>?_))
   ·exact kV (Hx 10 (i:Int) (((cl.getD (Int.toNat (q.rp-1)) cE).cl.length:Nat):Int) z 0 2 (Hg 12 (.gen [.int .u64 ((((cl.getD (Int.toNat (q.rp-1)) cE).cl).getD i nL).nm)]) [.cell ⟨z,0+(i*2)+1,none⟩ (.int .u64 ((((cl.getD (Int.toNat (q.rp-1)) cE).cl).getD i nL).nm))] (bE (aC.cV (a1.rows 1 rfl F3.size nL) (k:=i) zo (j:=1) zb zk) aR) (Hl 14 0 1 a1 Hz))) (aS.pick [40,2,4,7,8] (S':=[(40,.bool ((((((cl.getD (Int.toNat (q.rp-1)) cE).cl).getD i nL).nm):Int) == q.nm)),(2,.int .u64 v),(4,zP u 0),(7,zL z 0 ((cl.getD (Int.toNat (q.rp-1)) cE).cl.length) ((cl.getD (Int.toNat (q.rp-1)) cE).cc)),(8,.int .i64 (i:Nat))]) zk (aS.eF () (by first|rfl|(simp only [a0,Bool.not_true,Bool.not_false,Bool.true_or,Bool.false_or,Bool.true_and,Bool.false_and,Bool.or_true,Bool.or_false,Bool.and_true,Bool.and_false];done)|(simp [a0];done)) a1))
   ·exact En (cI (Dz (aS.pick [40,2,4,7,8] (S':=[(40,.bool false),(2,.int .u64 v),(4,zP u 0),(7,zL z 0 ((cl.getD (Int.toNat (q.rp-1)) cE).cl.length) ((cl.getD (Int.toNat (q.rp-1)) cE).cc)),(8,.int .i64 (i:Nat))]) zk (aS.eF () (by first|rfl|(simp only [a0,Bool.not_true,Bool.not_false,Bool.true_or,Bool.false_or,Bool.true_and,Bool.false_and,Bool.or_true,Bool.or_false,Bool.and_true,Bool.and_false];done)|(simp [a0];done)) a1))))
  intro _ a6 a8
  refine Zt (eZ (t:=((((((cl.getD (Int.toNat (q.rp-1)) cE).cl).getD i nL).vw):Int) == v) && ((((((cl.getD (Int.toNat (q.rp-1)) cE).cl).getD i nL).nm):Int) == q.nm)) (λa7=>?_) (λa7=>?_))
  ·have b6:=(Bool.and_eq_true_iff.1 a7).1
   have b7:((((((cl.getD (Int.toNat (q.rp-1)) cE).cl).getD i nL).nm):Int) == q.nm)=true:=(Bool.and_eq_true_iff.1 a7).2
   refine En (Lq (Le (Ll (Ly (E5 (Ll (Ly (Dz (bY (v:=.bool true) ?_)))))))))
   have b9:=a8.pl 1
   have c0:St w0 (Sl ((cl.getD (Int.toNat (q.rp-1)) cE).ca) ((cl.getD (Int.toNat (q.rp-1)) cE).cc) 289 2 dY.cells ((cl.getD (Int.toNat (q.rp-1)) cE).cl)::aB u (bu.cells q) 174::aE cF (cl.eraseIdx (Int.toNat (q.rp-1)))::aB lp (aQ.cells (RF n kn vb vc vl wb wc wl cb cc cl)) 214::Sl (sm cb) cc 287 1 bT.cells cl::L) a6:=(by rw [<- hga,<- hp.2];exact b9)
   have c1:St w0 (cF (cl.getD (Int.toNat (q.rp-1)) cE)::aB u (bu.cells q) 174::aE cF (cl.eraseIdx (Int.toNat (q.rp-1)))::aB lp (aQ.cells (RF n kn vb vc vl wb wc wl cb cc cl)) 214::Sl (sm cb) cc 287 1 bT.cells cl::L) a6:=Bd.close trivial c0
   have c2:=(c1.pl 2).pl 1
   have c3:St w0 (aE cF cl::aB u (bu.cells q) 174::aB lp (aQ.cells (RF n kn vb vc vl wb wc wl cb cc cl)) 214::Sl (sm cb) cc 287 1 bT.cells cl::L) a6:=aE.jK cE za c2
   have c4:=(((c3.pl 0).pl 3).pl 3).pl 3
   exact⟨true,rfl,c4.dr 1⟩
  ·exact Zk (Zm (Zt (dE (eT 1 ((i:Nat)+1) Hz) (aS.back (i+1,some ⟨z,0,none⟩) [2,4,7,8] zk (by show(cl.getD (Int.toNat (q.rp-1)) cE).cl.length-(i+1)<(cl.getD (Int.toNat (q.rp-1)) cE).cl.length-i;omega) ⟨⟨za,hp.2⟩,a8⟩))))
 ·refine En (Lx (mM (mN (Lh (Lt (Lq (Le (Dz (bY (v:=.bool false) ?_)))))))))
  have a4:=a3.pl 1
  have c6:St w0 (Sl ((cl.getD (Int.toNat (q.rp-1)) cE).ca) ((cl.getD (Int.toNat (q.rp-1)) cE).cc) 289 2 dY.cells ((cl.getD (Int.toNat (q.rp-1)) cE).cl)::aB u (bu.cells q) 174::aE cF (cl.eraseIdx (Int.toNat (q.rp-1)))::aB lp (aQ.cells (RF n kn vb vc vl wb wc wl cb cc cl)) 214::Sl (sm cb) cc 287 1 bT.cells cl::L) a5:=(by rw [<- hga,<- hp.2];exact a4)
  have c7:St w0 (cF (cl.getD (Int.toNat (q.rp-1)) cE)::aB u (bu.cells q) 174::aE cF (cl.eraseIdx (Int.toNat (q.rp-1)))::aB lp (aQ.cells (RF n kn vb vc vl wb wc wl cb cc cl)) 214::Sl (sm cb) cc 287 1 bT.cells cl::L) a5:=Bd.close trivial c6
  have c9:=(c7.pl 2).pl 1
  have d1:St w0 (aE cF cl::aB u (bu.cells q) 174::aB lp (aQ.cells (RF n kn vb vc vl wb wc wl cb cc cl)) 214::Sl (sm cb) cc 287 1 bT.cells cl::L) a5:=aE.jK cE za c9
  have d2:=(((d1.pl 0).pl 3).pl 3).pl 3
  exact⟨false,rfl,d2.dr 1⟩
end
variable {w0 w : World} {L : List bA}
def cW (l:List aT) (k:Nat) (x:aT):List aT:=l.take k++x::l.drop k
section
variable {l : List aT} {k : Nat} {x y d : aT}
theorem DB (l:List aT) (x:aT) (hk:k <= l.length):(cW l k x).length=l.length+1:=by
 unfold cW
 rw [List.length_append,List.length_cons,List.length_take,List.length_drop]
 omega
theorem KA:l++[x]=cW l l.length x:=by
 unfold cW
 rw [List.take_length,List.drop_length]
theorem I4 (h0:0<k) (hk:k <= l.length):(cW l k x).getD (k-1) d=l.getD (k-1) d:=by
 unfold cW
 simp only [List.getD_eq_getElem?_getD]
 rw [List.getElem?_append_left zK,List.getElem?_take_of_lt za]
theorem DC (hk:k <= l.length):(cW l k x).set k y=cW l k y:=by
 unfold cW
 rw [List.set_append_right _ _ zK,List.length_take,Nat.min_eq_left hk,Nat.sub_self]
 rfl
theorem I5 (h0:0<k) (hk:k <= l.length):cW l k (l.getD (k-1) d)=cW l (k-1) (l.getD (k-1) d):=by
 obtain⟨j,rfl⟩:∃ j,k=j+1:=⟨k-1,za⟩
 have hj:j<l.length:=za
 unfold cW
 rw [Nat.add_sub_cancel,bL (d:=d) hj,List.append_assoc,List.drop_eq_getElem_cons hj]
 rw [List.getD_eq_getElem?_getD,List.getElem?_eq_getElem hj]
 rfl
theorem Ab:List.Perm (cW l k x) (x::l):=by
 unfold cW
 refine List.perm_middle.trans ?_
 rw [List.take_append_drop]
end
theorem aE.perm {α:Type}{F:α -> bA}{l l2:List α}{w0 w:World}{L:List bA}(hp:List.Perm l l2) (h:St w0 (aE F l::L) w):St w0 (aE F l2::L) w:=aE.OW ((aE.out h).perm ((hp.map F).append_right L))
theorem Inv.Rk {t:Nat}{n:Int}{vl:List aT}{wl:List bD}{cl:List bT}(h:Inv t n vl wl cl){o:Nat}(ho:o<wl.length):0 <= (dM (wl.getD o bM).x).vw:=by
 rcases Nat.eq_zero_or_pos (wl.getD o bM).x.ll.length with e|e
 ·unfold dM
  rw [List.getD_eq_getElem?_getD,List.getElem?_eq_none za]
  exact Int.le_refl 0
 ·obtain⟨v,hv,u,-⟩:=(h.iT ho).2 _ (bJ (d:=eH) (show(wl.getD o bM).x.ll.length-1<_ by omega))
  have:=(h.hr v hv).1
  unfold dM
  omega
theorem wF {lp:Nat}(t:Nat) (x:aQ) (m:aK) (hm:lP m) (hq:∀ i,i<m.bd.ql.length -> 1 <= (m.bd.ql.getD i bG).rp /\ (m.bd.ql.getD i bG).rp <= x.n) (hprim:1+m.bd.vw % x.n=m.og) (hog:1 <= m.og /\ m.og <= x.n) (ht:t <= 100) (hql:m.bd.ql.length <= 100) (hr:Rw w0 L bu.cells 2 bG m.bd.qa m.bd.ql) (hs:St w0 (LS lp t x::L) w):Cs Tryz.prog 162 #[zP lp 0,.agg (aK.cells m)] w λrv w'=>∃ (ob2:Bool) (y2:aQ),rv=.bool ob2 /\ y2.n=x.n /\ St w0 (LS lp (t+1) y2::L) w':=by
 obtain⟨n,kn,va,vc,vl,wa,wc,wl,ca,cc,cl⟩:=x
 obtain⟨hI0,d8⟩:=Bd.open hs
 have hI:Inv t n vl wl cl:=hI0
 have c7:St w0 (aB lp (aQ.cells (⟨n,kn,va,vc,vl,wa,wc,wl,ca,cc,cl⟩:aQ)) 214::Sl va vc 209 4 aT.cells vl::aE cM vl::Sl wa wc 215 1 bD.ptr wl::aE cA wl::Sl ca cc 287 1 bT.cells cl::aE cF cl::L) w:=d8
 have hn:3 <= n /\ n <= 11:=⟨hI.n3,hI.Jw⟩
 have hwl:=hI.hw
 have hcl:=hI.hc
 have hvt:=hI.hv
 have hvl:0<vl.length:=by obtain⟨z,hz,-⟩:=hI.h0;exact List.length_pos_of_mem hz
 obtain⟨vb,rfl⟩:=Sl.isSome (c7.at_ 1 rfl) za
 obtain⟨wb,rfl⟩:=Sl.isSome (c7.at_ 3 rfl) za
 obtain⟨cb,rfl⟩:=Sl.isSome (c7.at_ 5 rfl) za
 have f1:∀ i,i<m.bd.ql.length -> 1 <= (m.bd.ql.getD i bG).rp /\ (m.bd.ql.getD i bG).rp <= n:=hq
 have s7:1 <= m.og /\ m.og <= n:=hog
 have s8:1+m.bd.vw % n=m.og:=hprim
 have hvw:=hm.bd.vw
 have hnr:=hm.nr
 have hgl:∀ y∈cl,y.cl.length <= 100000:=λy hy=>by have:=(hI.hg y hy).1;omega
 refine dF Tryz.func162 Tryz.ntmps162 ?_
 refine En (Ls (Lg [0] (Dz ?_)))
 refine mT (aK.cells m) c7 ?_
 intro b5 w6 f2
 refine Lz (Ls (Dz ?_))
 refine dZ [2,3] (hP 1 0 13 76 (aH.cells m.bd) f2 Hz) ?_
 refine tW (aH.cells qx) f2 ?_
 intro b8 w9 d8
 refine Lo (Dz ?_)
 refine Zu 0 0 (aH.cells m.bd) d8 ?_
 intro t0 h2
 refine Lo (Ld (Lt (Ls (Ls (Dz ?_)))))
 refine ZD (gE [0,1,2,3,4,5,6,7,8,9,10] .done) h2 ?_
 intro f3 c9 t1
 refine kV (Hl 1 0 43 c9 (Hl 6 2 0 c9 (eT 7 (n-1) (Hg 8 (.div ((n-1) / 2)) [.prop (IntKind.i64=IntKind.i64 /\ (2:Int)≠0 /\ IntKind.i64.wrap (Int.tdiv (n-1) 2)=(n-1) / 2)] (aJ ⟨rfl,zb,by rw [Int.tdiv_eq_ediv_of_nonneg za];exact uP za za⟩ aR) (eT 9 (((n-1) / 2)+1) Hz))))) ?_
 refine Zt ?_
 refine eZ (t:=(m.bd.ql.length:Int) != (((n-1) / 2)+1)) (λd9=>?_) (λd9=>?_)
 ·have h3:¬ ((m.bd.ql.length:Int)=(((n-1) / 2)+1)):=E2 d9
  refine En (Lq (Le (Ly (Dz ?_))))
  refine bY (v:=.bool false) ?_
  have h4:=((((((c9.pl 8).pl 8).pl 8).pl 8).pl 8).pl 8).pl 8
  have h5:St w0 (LS lp (t+1) (RF n kn vb vc vl wb wc wl cb cc cl)::aB b8 (aH.cells m.bd) 53::aB b5 (aK.cells m) 55::L) f3:=Bd.close hI.mono h4
  have h6:=((h5.pl 0).pl 2).pl 2
  have h7:=h6.dr 2
  exact⟨false,RF n kn vb vc vl wb wc wl cb cc cl,rfl,rfl,h7⟩
 ·have h3:(m.bd.ql.length:Int)=(((n-1) / 2)+1):=E3 d9
  refine Zk (Zt (Zs (Zs ?_)))
  obtain⟨qa,hqa⟩:∃ a,a=m.bd.qa:=⟨_,rfl⟩
  have hw:∀ w,St w0 L w -> aC w qa m.bd.ql.length 2 (λk=>bu.cells (m.bd.ql.getD k bG)):=by rw [hqa];exact hr
  have f4:St w0 (aB b8 (aH.cells (⟨m.bd.kd,m.bd.vw,m.bd.k,m.bd.rq,qa,m.bd.qc,m.bd.ql,m.bd.dg⟩:aH)) 53::aB b5 (aK.cells m) 55::aB lp (aQ.cells (RF n kn vb vc vl wb wc wl cb cc cl)) 214::Sl (sm vb) vc 209 4 aT.cells vl::aE cM vl::Sl (sm wb) wc 215 1 bD.ptr wl::aE cA wl::Sl (sm cb) cc 287 1 bT.cells cl::aE cF cl::L) f3:=(by rw [hqa];exact c9)
  obtain⟨a2,a3,rfl⟩:=aC.isSome (hw _ (f4.drop 9)) za
  refine Za (Zt (Zb ?_))
  refine aX.loop (T:=Nat) (λgg=>[(0,zP lp 0),(3,zP b5 0),(5,zP b8 0),(6,.int .i64 (gg:Nat))]) (λgg w=>(gg <= m.bd.ql.length) /\ St w0 (aB b8 (aH.cells (RH m.bd a2 a3)) 53::aB b5 (aK.cells m) 55::aB lp (aQ.cells (RF n kn vb vc vl wb wc wl cb cc cl)) 214::Sl (sm vb) vc 209 4 aT.cells vl::aE cM vl::Sl (sm wb) wc 215 1 bD.ptr wl::aE cA wl::Sl (sm cb) cc 287 1 bT.cells cl::aE cF cl::L) w) (λgg=>m.bd.ql.length-gg) 0 [0,3,5,6] zk ⟨Nat.zero_le _,f4⟩ ?_
  rintro i t2 ⟨t3,e0⟩
  refine Zs (Zs ?_)
  refine dE (Hl 2 0 43 e0 Hz) ?_
  refine Zt ?_
  refine Zi ((i:Int)<(m.bd.ql.length:Nat)) (λh8=>?_) (λh8=>?_)
  ·have hk:i<m.bd.ql.length:=za
   have hqi:=f1 i hk
   refine Zk (Zt (Zs (Zb (Zs ?_))))
   refine ZD (gE [0,1,2,3,4,5,6,7,8,9,10,11,12,13,14,15,16,17,18,19,20,21,22,23,24,25] (.ef 26 (gE [27,28] .done))) e0 ?_
   intro h9 b1 t4
   refine Zp 0 18 [(1,.gen [zL a2 a3 m.bd.ql.length m.bd.qc]),(3,.dH (zP a2 (a3+(i*2))) .at_),(5,.gen [.int .u64 ((m.bd.ql.getD i bG).nm)]),(7,.gen [zL a2 a3 m.bd.ql.length m.bd.qc]),(9,.dH (zP a2 (a3+(i*2))) .at_),(11,.gen [.int .i64 ((m.bd.ql.getD i bG).rp)]),(12,.dH (.int .i64 (((m.bd.ql.getD i bG).rp)-1)) (.gen [])),(14,.dH (zP b5 (2+((Int.toNat (((m.bd.ql.getD i bG).rp)-1))*1))) .at_),(15,.gen [.int .u64 (m.dp.toList.getD (Int.toNat (((m.bd.ql.getD i bG).rp)-1)) 0)])] [(1,[.cell ⟨b8,43,none⟩ (zL a2 a3 m.bd.ql.length m.bd.qc)]),(3,[.prop (0 <= (i:Int) /\ (i:Int)<(m.bd.ql.length:Int)),.prop (Value.pointer (some (Addr.add ⟨a2,a3,none⟩ (Int.toNat (i:Nat)*2)))=Value.pointer (some ⟨a2,a3+(i*2),none⟩))]),(5,[.cell ⟨a2,a3+(i*2)+1,none⟩ (.int .u64 ((m.bd.ql.getD i bG).nm))]),(7,[.cell ⟨b8,43,none⟩ (zL a2 a3 m.bd.ql.length m.bd.qc)]),(9,[.prop (0 <= (i:Int) /\ (i:Int)<(m.bd.ql.length:Int)),.prop (Value.pointer (some (Addr.add ⟨a2,a3,none⟩ (Int.toNat (i:Nat)*2)))=Value.pointer (some ⟨a2,a3+(i*2),none⟩))]),(11,[.cell ⟨a2,a3+(i*2),none⟩ (.int .i64 ((m.bd.ql.getD i bG).rp))]),(12,[.prop (Value.int .i64 (IntKind.i64.wrap (((m.bd.ql.getD i bG).rp)-1))=Value.int .i64 (((m.bd.ql.getD i bG).rp)-1))]),(14,[.prop (0 <= ((((m.bd.ql.getD i bG).rp)-1):Int) /\ ((((m.bd.ql.getD i bG).rp)-1):Int)<(11:Int)),.prop (Value.pointer (some (Addr.add ⟨b5,2,none⟩ (Int.toNat (((m.bd.ql.getD i bG).rp)-1)*1)))=Value.pointer (some ⟨b5,2+((Int.toNat (((m.bd.ql.getD i bG).rp)-1))*1),none⟩))]),(15,[.cell ⟨b5,2+((Int.toNat (((m.bd.ql.getD i bG).rp)-1))*1),none⟩ (.int .u64 (m.dp.toList.getD (Int.toNat (((m.bd.ql.getD i bG).rp)-1)) 0))])] (ak (bE (b1.cell 0 rfl zk) aR) (ak (aJ za (aJ (aU _ _ _) aR)) (ak (bE (aC.cV (hw _ (b1.drop 9)) (k:=i) zo (j:=1) zb zk) aR) (ak (bE (b1.cell 0 rfl zk) aR) (ak (aJ za (aJ (aU _ _ _) aR)) (ak (bE (aC.cV (hw _ (b1.drop 9)) (k:=i) zo (j:=0) zb zk) aR) (ak (aJ (iD za za) aR) (ak (aJ za (aJ (aU _ _ _) aR)) (ak (bE (b1.cell 1 rfl (aP.ry (off:=2) (d:=m.dp) zk za)) aR) iF))))))))) ?_
   refine LY 53 (((m.bd.ql.getD i bG).nm:Int)>(m.dp.toList.getD (Int.toNat (((m.bd.ql.getD i bG).rp)-1)) 0)) (λi0=>?_) (λi0=>?_)
   ·refine En (Lw ?_)
    refine aL.skip rfl zk gS ?_
    refine En (cI (Lt (LT (Lq (Le (Ll (Ly (E5 (Ll (Ly (Dz ?_)))))))))))
    refine bY (v:=.bool false) ?_
    have i1:=((((((b1.pl 8).pl 8).pl 8).pl 8).pl 8).pl 8).pl 8
    have i2:St w0 (LS lp (t+1) (RF n kn vb vc vl wb wc wl cb cc cl)::aB b8 (aH.cells (RH m.bd a2 a3)) 53::aB b5 (aK.cells m) 55::L) h9:=Bd.close hI.mono i1
    have i3:=((i2.pl 0).pl 2).pl 2
    have i4:=i3.dr 2
    exact⟨false,RF n kn vb vc vl wb wc wl cb cc cl,rfl,rfl,i4⟩
   ·refine Zj (Hl 20 0 43 b1 (Hx 22 (i:Int) (m.bd.ql.length:Int) a2 a3 2 (Hg 23 (.agg (bu.cells (m.bd.ql.getD i bG))) [.prop (Array.size (bu.cells (m.bd.ql.getD i bG))=2),.cells ⟨a2,a3+(i*2),none⟩ (bu.cells (m.bd.ql.getD i bG))] (aJ zk (iN (aC.mj (hw _ (b1.drop 9)) (k:=i) zo (Nat.le_of_ble_eq_true zk) zk) aR)) (Hl 25 0 1 b1 Hz)))) ?_
    have i5:=((b1.pl 8).pl 8).pl 4
    refine Zc (uR (m.bd.ql.getD i bG) m.bd.vw zc zc hqi hgl i5) ?_
    rintro t5 i6 ⟨e1,rfl,f5⟩
    refine Lz (Dz ?_)
    refine eZ (t:=!e1) (λe2=>?_) (λe2=>?_)
    ·have i7:e1=false:=sA e2
     refine En (Lq (Le (Ll (Ly (E5 (Ll (Ly (Dz ?_))))))))
     refine bY (v:=.bool false) ?_
     have i8:=((((((f5.pl 2).pl 2).pl 8).pl 8).pl 8).pl 8).pl 6
     have i9:St w0 (LS lp (t+1) (RF n kn vb vc vl wb wc wl cb cc cl)::aB b8 (aH.cells (RH m.bd a2 a3)) 53::aB b5 (aK.cells m) 55::L) i6:=Bd.close hI.mono i8
     have j0:=((i9.pl 0).pl 2).pl 2
     have j1:=j0.dr 2
     exact⟨false,RF n kn vb vc vl wb wc wl cb cc cl,rfl,rfl,j1⟩
    ·have i7:e1=true:=pK e2
     refine Zk (Zm (Zt ?_))
     refine dE (eT 1 ((i:Nat)+1) Hz) ?_
     have j2:=((((((((f5.pl 2).pl 2).pl 8).pl 8).pl 8).pl 8).pl 6).pl 8).pl 8
     exact aS.back (i+1) [0,3,5,6] zk (by show m.bd.ql.length-(i+1)<m.bd.ql.length-i;omega) ⟨za,j2⟩
  ·refine En (Lx (mM (mN (Lh (Lt (Lq (Lq (Ls (Lq (Lb (Dz ?_)))))))))))
   refine aX.loop (T:=Nat×Int×Int) (λgg=>[(0,zP lp 0),(3,zP b5 0),(5,zP b8 0),(7,.int .u64 gg.2.1),(8,.int .i64 gg.2.2),(9,.int .i64 (gg.1:Nat))]) (λgg w=>(gg.1 <= m.bd.ql.length /\ Has vl gg.2.1 gg.2.2) /\ St w0 (aB b8 (aH.cells (RH m.bd a2 a3)) 53::aB b5 (aK.cells m) 55::aB lp (aQ.cells (RF n kn vb vc vl wb wc wl cb cc cl)) 214::Sl (sm vb) vc 209 4 aT.cells vl::aE cM vl::Sl (sm wb) wc 215 1 bD.ptr wl::aE cA wl::Sl (sm cb) cc 287 1 bT.cells cl::aE cF cl::L) w) (λgg=>m.bd.ql.length-gg.1) (0,0,0) [0,3,5,7,8,9] zk ⟨⟨Nat.zero_le _,hI.h0⟩,e0⟩ ?_
   rintro⟨j,u,lo⟩ t6 ⟨c3,d1⟩
   dsimp only at c3 d1
   refine Zs (Zs ?_)
   refine dE (Hl 2 0 43 d1 Hz) ?_
   refine Zt ?_
   refine Zi ((j:Int)<(m.bd.ql.length:Nat)) (λj3=>?_) (λj3=>?_)
   ·have hj:j<m.bd.ql.length:=za
    have hqj:=f1 j hj
    refine Zk (Zt (Zs (Zb (Zs ?_))))
    refine ZD (gE [0,1,2,3,4,5,6,7,8,9,10,11,12,13] .done) d1 ?_
    intro d2 c4 t7
    refine kV (Hl 3 2 13 c4 (Hl 5 0 43 c4 (Hx 7 (j:Int) (m.bd.ql.length:Int) a2 a3 2 (Hg 9 (.gen [.int .i64 ((m.bd.ql.getD j bG).rp)]) [.cell ⟨a2,a3+(j*2),none⟩ (.int .i64 ((m.bd.ql.getD j bG).rp))] (bE (aC.cV (hw _ (c4.drop 9)) (k:=j) zo (j:=0) zb zk) aR) (eT 10 (((m.bd.ql.getD j bG).rp)-1) (Hx 11 ((((m.bd.ql.getD j bG).rp)-1):Int) (wl.length:Int) wb 0 1 (Hg 12 (.gen [zP ((wl.getD (Int.toNat (((m.bd.ql.getD j bG).rp)-1)) bM).b) 0]) [.cell ⟨wb,0+((Int.toNat (((m.bd.ql.getD j bG).rp)-1))*1),none⟩ (zP ((wl.getD (Int.toNat (((m.bd.ql.getD j bG).rp)-1)) bM).b) 0)] (bE (aC.cV (c4.rows 5 rfl F4.size bM) (k:=Int.toNat (((m.bd.ql.getD j bG).rp)-1)) zo (j:=0) zb zk) aR) Hz))))))) ?_
    refine Zt (Zs ?_)
    have j4:=c4.pl 6
    have j5:St w0 (cA (wl.getD (Int.toNat ((m.bd.ql.getD j bG).rp-1)) bM)::aE cA (wl.eraseIdx (Int.toNat ((m.bd.ql.getD j bG).rp-1)))::aB b8 (aH.cells (RH m.bd a2 a3)) 53::aB b5 (aK.cells m) 55::aB lp (aQ.cells (RF n kn vb vc vl wb wc wl cb cc cl)) 214::Sl (sm vb) vc 209 4 aT.cells vl::aE cM vl::Sl (sm wb) wc 215 1 bD.ptr wl::Sl (sm cb) cc 287 1 bT.cells cl::aE cF cl::L) d2:=aE.take bM za j4
    have j6:St w0 (PS ((wl.getD (Int.toNat ((m.bd.ql.getD j bG).rp-1)) bM).b) ((wl.getD (Int.toNat ((m.bd.ql.getD j bG).rp-1)) bM).x)::aE cA (wl.eraseIdx (Int.toNat ((m.bd.ql.getD j bG).rp-1)))::aB b8 (aH.cells (RH m.bd a2 a3)) 53::aB b5 (aK.cells m) 55::aB lp (aQ.cells (RF n kn vb vc vl wb wc wl cb cc cl)) 214::Sl (sm vb) vc 209 4 aT.cells vl::aE cM vl::Sl (sm wb) wc 215 1 bD.ptr wl::Sl (sm cb) cc 287 1 bT.cells cl::aE cF cl::L) d2:=j5
    obtain⟨px,hpx⟩:∃ p,p=(wl.getD (Int.toNat ((m.bd.ql.getD j bG).rp-1)) bM):=⟨_,rfl⟩
    have j7:St w0 (PS px.b px.x::aE cA (wl.eraseIdx (Int.toNat ((m.bd.ql.getD j bG).rp-1)))::aB b8 (aH.cells (RH m.bd a2 a3)) 53::aB b5 (aK.cells m) 55::aB lp (aQ.cells (RF n kn vb vc vl wb wc wl cb cc cl)) 214::Sl (sm vb) vc 209 4 aT.cells vl::aE cM vl::Sl (sm wb) wc 215 1 bD.ptr wl::Sl (sm cb) cc 287 1 bT.cells cl::aE cF cl::L) d2:=(by rw [hpx];exact j6)
    refine Zn [(10,zP ((wl.getD (Int.toNat (((m.bd.ql.getD j bG).rp)-1)) bM).b) 0),(0,zP lp 0),(3,zP b5 0),(5,zP b8 0),(7,.int .u64 u),(8,.int .i64 lo),(9,.int .i64 (j:Nat))] ?_
    refine aX.gL (S':=[(10,zP px.b 0),(0,zP lp 0),(3,zP b5 0),(5,zP b8 0),(7,.int .u64 u),(8,.int .i64 lo),(9,.int .i64 (j:Nat))]) (by rw [hpx]) ?_
    have hpy:∀ y∈px.x.ll,Has vl y.vw y.lg:=by rw [hpx];exact(hI.iT za).2
    have fS:px.x.ll.length <= t+1:=by rw [hpx];exact(hI.iT za).1
    obtain⟨pb,⟨gr,la,lc,ll⟩⟩:=px
    obtain⟨f6,j8⟩:=Bd.open j7
    have f7:St w0 (aB pb (dQ.cells (⟨gr,la,lc,ll⟩:dQ)) 286::Sl la lc 283 2 eS.cells ll::aE cA (wl.eraseIdx (Int.toNat ((m.bd.ql.getD j bG).rp-1)))::aB b8 (aH.cells (RH m.bd a2 a3)) 53::aB b5 (aK.cells m) 55::aB lp (aQ.cells (RF n kn vb vc vl wb wc wl cb cc cl)) 214::Sl (sm vb) vc 209 4 aT.cells vl::aE cM vl::Sl (sm wb) wc 215 1 bD.ptr wl::Sl (sm cb) cc 287 1 bT.cells cl::aE cF cl::L) d2:=j8
    have hll:0<ll.length /\ ll.length <= 1000:=f6.1
    have hlq:∀ y∈ll,Has vl y.vw y.lg:=hpy
    obtain⟨b6,rfl⟩:=Sl.isSome (f7.at_ 1 rfl) za
    refine Za (Zt (Zb ?_))
    refine aX.loop (T:=Nat×Int×Int) (λgg=>[(0,zP lp 0),(3,zP b5 0),(5,zP b8 0),(7,.int .u64 gg.2.1),(8,.int .i64 gg.2.2),(9,.int .i64 (j:Nat)),(10,zP pb 0),(11,.int .i64 (gg.1:Nat))]) (λgg w=>(gg.1 <= ll.length /\ Has vl gg.2.1 gg.2.2) /\ St w0 (aB pb (dQ.cells (⟨gr,sm b6,lc,ll⟩:dQ)) 286::Sl (sm b6) lc 283 2 eS.cells ll::aE cA (wl.eraseIdx (Int.toNat ((m.bd.ql.getD j bG).rp-1)))::aB b8 (aH.cells (RH m.bd a2 a3)) 53::aB b5 (aK.cells m) 55::aB lp (aQ.cells (RF n kn vb vc vl wb wc wl cb cc cl)) 214::Sl (sm vb) vc 209 4 aT.cells vl::aE cM vl::Sl (sm wb) wc 215 1 bD.ptr wl::Sl (sm cb) cc 287 1 bT.cells cl::aE cF cl::L) w) (λgg=>ll.length-gg.1) (0,u,lo) [0,3,5,7,8,9,10,11] zk ⟨⟨Nat.zero_le _,c3.2⟩,f7⟩ ?_
    rintro⟨k,u,lo⟩ e3 ⟨e4,c0⟩
    dsimp only at e4 c0
    refine Zs (Zs ?_)
    refine dE (Hl 4 0 1 c0 Hz) ?_
    refine Zt ?_
    refine Zi ((k:Int)<(ll.length:Nat)) (λj9=>?_) (λj9=>?_)
    ·have hkk:k<ll.length:=za
     have hpk:=hlq _ (bJ (d:=eH) hkk)
     refine Zk (Zt (Zs (Zb (Zs ?_))))
     refine dZ [7,8] (Hl 3 0 1 c0 (Hx 5 (k:Int) (ll.length:Int) b6 0 2 (Hg 6 (.agg (eS.cells (ll.getD k eH))) [.prop (Array.size (eS.cells (ll.getD k eH))=2),.cells ⟨b6,0+(k*2),none⟩ (eS.cells (ll.getD k eH))] (aJ zk (iN (aC.mj (c0.rows 1 rfl pO.size eH) (k:=k) zo (Nat.le_of_ble_eq_true zk) zk) aR)) Hz))) ?_
     refine tW (eS.cells eH) c0 ?_
     intro c1 t8 k0
     refine Lo (Dz ?_)
     refine Zu 0 0 (eS.cells (ll.getD k eH)) k0 ?_
     intro t9 b2
     refine Lo (Ld (Lt (Ls (Dz ?_))))
     refine aX.join (T:=Unit) (E:=λ_=>[(123,.bool ((decide (((ll.getD k eH).vw:Int)<m.bd.vw)) && ((decide (((ll.getD k eH).vw:Int)>u)) || (((((ll.getD k eH).vw):Int) == u) && (decide (((ll.getD k eH).lg:Int)>lo)))))),(12,zP c1 0),(0,zP lp 0),(3,zP b5 0),(5,zP b8 0),(7,.int .u64 u),(8,.int .i64 lo),(9,.int .i64 (j:Nat)),(10,zP pb 0),(11,.int .i64 (k:Nat))]) (F:=λ_ w=>St w0 (aB c1 (eS.cells (ll.getD k eH)) 283::aB pb (dQ.cells (⟨gr,sm b6,lc,ll⟩:dQ)) 286::Sl (sm b6) lc 283 2 eS.cells ll::aE cA (wl.eraseIdx (Int.toNat ((m.bd.ql.getD j bG).rp-1)))::aB b8 (aH.cells (RH m.bd a2 a3)) 53::aB b5 (aK.cells m) 55::aB lp (aQ.cells (RF n kn vb vc vl wb wc wl cb cc cl)) 214::Sl (sm vb) vc 209 4 aT.cells vl::aE cM vl::Sl (sm wb) wc 215 1 bD.ptr wl::Sl (sm cb) cc 287 1 bT.cells cl::aE cF cl::L) w) ?_ ?_
     ·refine Zg [] ?_
      refine kJ 0 6 (Hl 1 0 0 b2 (Hl 3 4 1 b2 Hz)) ?_
      refine iy 106 (decide (((ll.getD k eH).vw:Int)<m.bd.vw)) (λb0=>?_) (λb0=>?_)
      ·have k1:((ll.getD k eH).vw:Int)<m.bd.vw:=of_decide_eq_true b0
       refine kJ 6 5 (Hl 7 0 0 b2 Hz) ?_
       refine iy 111 (decide (((ll.getD k eH).vw:Int)>u)) (λb3=>?_) (λb3=>?_)
       ·have k2:((ll.getD k eH).vw:Int)>u:=of_decide_eq_true b3
        refine En (cI (Dz ?_))
        refine aS.pick [123,12,0,3,5,7,8,9,10,11] (S':=[(123,.bool true),(12,zP c1 0),(0,zP lp 0),(3,zP b5 0),(5,zP b8 0),(7,.int .u64 u),(8,.int .i64 lo),(9,.int .i64 (j:Nat)),(10,zP pb 0),(11,.int .i64 (k:Nat))]) zk ?_
        exact aS.eF () (by first|rfl|(simp only [b0,b3,Bool.not_true,Bool.not_false,Bool.true_or,Bool.false_or,Bool.true_and,Bool.false_and,Bool.or_true,Bool.or_false,Bool.and_true,Bool.and_false];done)|(simp [b0,b3];done)) b2
       ·have k2:¬ (((ll.getD k eH).vw:Int)>u):=of_decide_eq_false b3
        refine kJ 11 5 (Hl 12 0 0 b2 Hz) ?_
        refine iy 116 ((((ll.getD k eH).vw):Int) == u) (λb7=>?_) (λb7=>?_)
        ·have k3:((ll.getD k eH).vw:Int)=u:=kr b7
         refine kV (Hl 17 0 1 b2 Hz) ?_
         refine aS.pick [123,12,0,3,5,7,8,9,10,11] (S':=[(123,.bool (decide (((ll.getD k eH).lg:Int)>lo))),(12,zP c1 0),(0,zP lp 0),(3,zP b5 0),(5,zP b8 0),(7,.int .u64 u),(8,.int .i64 lo),(9,.int .i64 (j:Nat)),(10,zP pb 0),(11,.int .i64 (k:Nat))]) zk ?_
         exact aS.eF () (by first|rfl|(simp only [b0,b3,b7,Bool.not_true,Bool.not_false,Bool.true_or,Bool.false_or,Bool.true_and,Bool.false_and,Bool.or_true,Bool.or_false,Bool.and_true,Bool.and_false];done)|(simp [b0,b3,b7];done)) b2
        ·have k3:¬ (((ll.getD k eH).vw:Int)=u):=lf b7
         refine En (cI (Dz ?_))
         refine aS.pick [123,12,0,3,5,7,8,9,10,11] (S':=[(123,.bool false),(12,zP c1 0),(0,zP lp 0),(3,zP b5 0),(5,zP b8 0),(7,.int .u64 u),(8,.int .i64 lo),(9,.int .i64 (j:Nat)),(10,zP pb 0),(11,.int .i64 (k:Nat))]) zk ?_
         exact aS.eF () (by first|rfl|(simp only [b0,b3,b7,Bool.not_true,Bool.not_false,Bool.true_or,Bool.false_or,Bool.true_and,Bool.false_and,Bool.or_true,Bool.or_false,Bool.and_true,Bool.and_false];done)|(simp [b0,b3,b7];done)) b2
      ·have k1:¬ (((ll.getD k eH).vw:Int)<m.bd.vw):=of_decide_eq_false b0
       refine En (cI (Dz ?_))
       refine aS.pick [123,12,0,3,5,7,8,9,10,11] (S':=[(123,.bool false),(12,zP c1 0),(0,zP lp 0),(3,zP b5 0),(5,zP b8 0),(7,.int .u64 u),(8,.int .i64 lo),(9,.int .i64 (j:Nat)),(10,zP pb 0),(11,.int .i64 (k:Nat))]) zk ?_
       exact aS.eF () (by first|rfl|(simp only [b0,Bool.not_true,Bool.not_false,Bool.true_or,Bool.false_or,Bool.true_and,Bool.false_and,Bool.or_true,Bool.or_false,Bool.and_true,Bool.and_false];done)|(simp [b0];done)) b2
     intro _ u0 d3
     refine Zt ?_
     refine eZ (t:=(decide (((ll.getD k eH).vw:Int)<m.bd.vw)) && ((decide (((ll.getD k eH).vw:Int)>u)) || (((((ll.getD k eH).vw):Int) == u) && (decide (((ll.getD k eH).lg:Int)>lo))))) (λe5=>?_) (λe5=>?_)
     ·have k4:(decide (((ll.getD k eH).vw:Int)<m.bd.vw))=true:=(Bool.and_eq_true_iff.1 e5).1
      have u1:((ll.getD k eH).vw:Int)<m.bd.vw:=of_decide_eq_true k4
      have u2:((decide (((ll.getD k eH).vw:Int)>u)) || (((((ll.getD k eH).vw):Int) == u) && (decide (((ll.getD k eH).lg:Int)>lo))))=true:=(Bool.and_eq_true_iff.1 e5).2
      refine Zs ?_
      refine dE (Hl 1 0 0 d3 Hz) ?_
      refine Zt ?_
      refine dE (Hl 1 0 1 d3 Hz) ?_
      refine Zm (Zt ?_)
      refine dE (eT 1 ((k:Nat)+1) Hz) ?_
      have k5:=d3.dr 1
      exact aS.back (k+1,(ll.getD k eH).vw,(ll.getD k eH).lg) [0,3,5,7,8,9,10,11] zk (by show ll.length-(k+1)<ll.length-k;omega) ⟨⟨za,hpk⟩,k5⟩
     ·refine Zk (Zm (Zt ?_))
      refine dE (eT 1 ((k:Nat)+1) Hz) ?_
      have k6:=d3.dr 1
      exact aS.back (k+1,u,lo) [0,3,5,7,8,9,10,11] zk (by show ll.length-(k+1)<ll.length-k;omega) ⟨⟨za,e4.2⟩,k6⟩
    ·refine Zx (aS.eQ (aS.eR (aS.kI (Zm (Zt ?_)))))
     have k7:St w0 (PS pb (⟨gr,sm b6,lc,ll⟩:dQ)::aE cA (wl.eraseIdx (Int.toNat ((m.bd.ql.getD j bG).rp-1)))::aB b8 (aH.cells (RH m.bd a2 a3)) 53::aB b5 (aK.cells m) 55::aB lp (aQ.cells (RF n kn vb vc vl wb wc wl cb cc cl)) 214::Sl (sm vb) vc 209 4 aT.cells vl::aE cM vl::Sl (sm wb) wc 215 1 bD.ptr wl::Sl (sm cb) cc 287 1 bT.cells cl::aE cF cl::L) e3:=Bd.close f6 c0
     have k8:St w0 (cA (wl.getD (Int.toNat ((m.bd.ql.getD j bG).rp-1)) bM)::aE cA (wl.eraseIdx (Int.toNat ((m.bd.ql.getD j bG).rp-1)))::aB b8 (aH.cells (RH m.bd a2 a3)) 53::aB b5 (aK.cells m) 55::aB lp (aQ.cells (RF n kn vb vc vl wb wc wl cb cc cl)) 214::Sl (sm vb) vc 209 4 aT.cells vl::aE cM vl::Sl (sm wb) wc 215 1 bD.ptr wl::Sl (sm cb) cc 287 1 bT.cells cl::aE cF cl::L) e3:=(by rw [<- hpx];exact k7)
     have k9:St w0 (aE cA wl::aB b8 (aH.cells (RH m.bd a2 a3)) 53::aB b5 (aK.cells m) 55::aB lp (aQ.cells (RF n kn vb vc vl wb wc wl cb cc cl)) 214::Sl (sm vb) vc 209 4 aT.cells vl::aE cM vl::Sl (sm wb) wc 215 1 bD.ptr wl::Sl (sm cb) cc 287 1 bT.cells cl::aE cF cl::L) e3:=aE.jK bM za k8
     refine dE (eT 1 ((j:Nat)+1) Hz) ?_
     have l0:=((((((((k9.pl 8).pl 8).pl 2).pl 8).pl 8).pl 8).pl 8).pl 8).pl 8
     exact aS.back (j+1,u,lo) [0,3,5,7,8,9] zk (by show m.bd.ql.length-(j+1)<m.bd.ql.length-j;omega) ⟨⟨za,e4.2⟩,l0⟩
   ·refine Zx (aS.eQ (aS.eR (aS.kI (Zt (Zs ?_)))))
    refine ZD (gE [0,1,2,3,4,5,10] (.ef 6 (gE [7,8] (.ef 9 (gE [11,12] .done))))) d1 ?_
    intro u3 f8 u4
    refine Zj (Hl 3 2 12 f8 Hz) ?_
    have l1:=(f8.pl 3).pl 3
    refine Zc (rQ u zc l1) ?_
    rintro u5 f9 ⟨a4,rfl,l2,l3⟩
    have hik:=Br.has l2 c3.2
    have kI:Int.toNat a4<vl.length:=za
    have hlb:=c3.2.lt hI.hs
    have l4:=l3.pl 4
    have l5:St w0 (cM (vl.getD (Int.toNat a4) aN)::aE cM (vl.eraseIdx (Int.toNat a4))::aB lp (aQ.cells (RF n kn vb vc vl wb wc wl cb cc cl)) 214::Sl (sm vb) vc 209 4 aT.cells vl::aB b8 (aH.cells (RH m.bd a2 a3)) 53::aB b5 (aK.cells m) 55::Sl (sm wb) wc 215 1 bD.ptr wl::aE cA wl::Sl (sm cb) cc 287 1 bT.cells cl::aE cF cl::L) f9:=aE.take aN za l4
    obtain⟨_,l6⟩:=Bd.open l5
    have d4:St w0 (Sl ((vl.getD (Int.toNat a4) aN).sa) ((vl.getD (Int.toNat a4) aN).sc) 41 40 bC.cells ((vl.getD (Int.toNat a4) aN).sl)::Sl ((vl.getD (Int.toNat a4) aN).pa) ((vl.getD (Int.toNat a4) aN).pc) 296 41 dT.cells ((vl.getD (Int.toNat a4) aN).pl)::aE cM (vl.eraseIdx (Int.toNat a4))::aB lp (aQ.cells (RF n kn vb vc vl wb wc wl cb cc cl)) 214::Sl (sm vb) vc 209 4 aT.cells vl::aB b8 (aH.cells (RH m.bd a2 a3)) 53::aB b5 (aK.cells m) 55::Sl (sm wb) wc 215 1 bD.ptr wl::aE cA wl::Sl (sm cb) cc 287 1 bT.cells cl::aE cF cl::L) f9:=l6
    have hls:(vl.getD (Int.toNat a4) aN).sl.length+(vl.getD (Int.toNat a4) aN).pl.length <= t:=hI.hs _ (bJ kI)
    have hlo:=hI.once kI (k:=lo) (by rw [hik.2.2];exact c3.2)
    have hlL:=oI (vl.getD (Int.toNat a4) aN) (vl.getD (Int.toNat a4) aN).pl.length (Nat.le_refl _)
    refine⟨Mv d4 3 rfl [12],?_⟩
    refine Zj (Hx 7 (a4:Int) (vl.length:Int) vb 0 4 (Hg 8 (.agg (aT.cells (vl.getD (Int.toNat a4) aN))) [.prop (Array.size (aT.cells (vl.getD (Int.toNat a4) aN))=4),.cells ⟨vb,0+((Int.toNat a4)*4),none⟩ (aT.cells (vl.getD (Int.toNat a4) aN))] (aJ zk (iN (aC.mj (d4.rows 4 rfl jJ.size aN) (k:=Int.toNat a4) zo (Nat.le_of_ble_eq_true zk) zk) aR)) Hz)) ?_
    refine Zc (uo (vl.getD (Int.toNat a4) aN) zc (d4.hZ 0 rfl) (λw h=>h.rows 0 rfl CR.size _) (λw h=>h.rows 1 rfl IV.size _) d4) ?_
    rintro u6 c2 ⟨a1,a0,rfl,g0⟩
    refine Lo (Dz ?_)
    have u7:=Sl.cap (g0.at_ 0 rfl)
    refine kV (Hg 11 (.dH (.slice a1 (((eP (vl.getD (Int.toNat a4) aN) (vl.getD (Int.toNat a4) aN).pl.length).take (Int.toNat lo)).length) a0) (.sub 0 (Int.toNat lo))) [.prop ((lo:Int)=((Int.toNat lo:Nat):Int)),.prop (((none:Option Operand)=none -> (0:Nat)=0) /\ (some (Operand.tmp 138)=none -> (Int.toNat lo:Nat)=(eP (vl.getD (Int.toNat a4) aN) (vl.getD (Int.toNat a4) aN).pl.length).length) /\ (0:Nat) <= Int.toNat lo /\ (Int.toNat lo:Nat) <= a0),.prop (Value.slice (if a0=0 then a1 else (a1:Option Addr).map (λa=>a.add (0*40))) ((Int.toNat lo)-0) (a0-0)=Value.slice a1 (((eP (vl.getD (Int.toNat a4) aN) (vl.getD (Int.toNat a4) aN).pl.length).take (Int.toNat lo)).length) a0)] (aJ za (aJ ⟨(by first|(intro _;rfl)|(intro hc;cases hc)),(by first|(intro _;rfl)|(intro hc;cases hc)),za,za⟩ (aJ (JN zE) aR))) Hz) ?_
    refine Zt (Zs (Zs ?_))
    have l7:St w0 (Sl a1 a0 41 40 bC.cells ((eP (vl.getD (Int.toNat a4) aN) (vl.getD (Int.toNat a4) aN).pl.length).take (Int.toNat lo))::Sl ((vl.getD (Int.toNat a4) aN).sa) ((vl.getD (Int.toNat a4) aN).sc) 41 40 bC.cells ((vl.getD (Int.toNat a4) aN).sl)::Sl ((vl.getD (Int.toNat a4) aN).pa) ((vl.getD (Int.toNat a4) aN).pc) 296 41 dT.cells ((vl.getD (Int.toNat a4) aN).pl)::aE cM (vl.eraseIdx (Int.toNat a4))::aB lp (aQ.cells (RF n kn vb vc vl wb wc wl cb cc cl)) 214::Sl (sm vb) vc 209 4 aT.cells vl::aB b8 (aH.cells (RH m.bd a2 a3)) 53::aB b5 (aK.cells m) 55::Sl (sm wb) wc 215 1 bD.ptr wl::aE cA wl::Sl (sm cb) cc 287 1 bT.cells cl::aE cF cl::L) c2:=St.Kz CR.size (ys:=(eP (vl.getD (Int.toNat a4) aN) (vl.getD (Int.toNat a4) aN).pl.length).drop (Int.toNat lo)) (by rw [List.take_append_drop];exact g0)
    obtain⟨sq,hsq⟩:∃ s,s=(eP (vl.getD (Int.toNat a4) aN) (vl.getD (Int.toNat a4) aN).pl.length).take (Int.toNat lo):=⟨_,rfl⟩
    have hsl:(sq.length:Int)=lo:=by rw [hsq,List.length_take];omega
    have l8:St w0 (Sl a1 a0 41 40 bC.cells sq::Sl ((vl.getD (Int.toNat a4) aN).sa) ((vl.getD (Int.toNat a4) aN).sc) 41 40 bC.cells ((vl.getD (Int.toNat a4) aN).sl)::Sl ((vl.getD (Int.toNat a4) aN).pa) ((vl.getD (Int.toNat a4) aN).pc) 296 41 dT.cells ((vl.getD (Int.toNat a4) aN).pl)::aE cM (vl.eraseIdx (Int.toNat a4))::aB lp (aQ.cells (RF n kn vb vc vl wb wc wl cb cc cl)) 214::Sl (sm vb) vc 209 4 aT.cells vl::aB b8 (aH.cells (RH m.bd a2 a3)) 53::aB b5 (aK.cells m) 55::Sl (sm wb) wc 215 1 bD.ptr wl::aE cA wl::Sl (sm cb) cc 287 1 bT.cells cl::aE cF cl::L) c2:=(by rw [hsq];exact l7)
    refine Zn [(13,.slice a1 (((eP (vl.getD (Int.toNat a4) aN) (vl.getD (Int.toNat a4) aN).pl.length).take (Int.toNat lo)).length) a0),(0,zP lp 0),(3,zP b5 0),(5,zP b8 0),(8,.int .i64 lo)] ?_
    refine aX.gL (S':=[(13,.slice a1 sq.length a0),(0,zP lp 0),(3,zP b5 0),(5,zP b8 0),(8,.int .i64 lo)]) (by rw [hsq]) ?_
    have l9:=(l8.pl 2).pl 2
    have m0:St w0 (cM (vl.getD (Int.toNat a4) aN)::Sl a1 a0 41 40 bC.cells sq::aE cM (vl.eraseIdx (Int.toNat a4))::aB lp (aQ.cells (RF n kn vb vc vl wb wc wl cb cc cl)) 214::Sl (sm vb) vc 209 4 aT.cells vl::aB b8 (aH.cells (RH m.bd a2 a3)) 53::aB b5 (aK.cells m) 55::Sl (sm wb) wc 215 1 bD.ptr wl::aE cA wl::Sl (sm cb) cc 287 1 bT.cells cl::aE cF cl::L) c2:=Bd.close trivial l9
    have m1:=(m0.pl 2).pl 1
    have m2:St w0 (aE cM vl::Sl a1 a0 41 40 bC.cells sq::aB lp (aQ.cells (RF n kn vb vc vl wb wc wl cb cc cl)) 214::Sl (sm vb) vc 209 4 aT.cells vl::aB b8 (aH.cells (RH m.bd a2 a3)) 53::aB b5 (aK.cells m) 55::Sl (sm wb) wc 215 1 bD.ptr wl::aE cA wl::Sl (sm cb) cc 287 1 bT.cells cl::aE cF cl::L) c2:=aE.jK aN za m1
    have m3:=m2.pl 7
    have m4:St w0 (cA (wl.getD (Int.toNat (m.og-1)) bM)::aE cA (wl.eraseIdx (Int.toNat (m.og-1)))::aE cM vl::Sl a1 a0 41 40 bC.cells sq::aB lp (aQ.cells (RF n kn vb vc vl wb wc wl cb cc cl)) 214::Sl (sm vb) vc 209 4 aT.cells vl::aB b8 (aH.cells (RH m.bd a2 a3)) 53::aB b5 (aK.cells m) 55::Sl (sm wb) wc 215 1 bD.ptr wl::Sl (sm cb) cc 287 1 bT.cells cl::aE cF cl::L) c2:=aE.take bM za m3
    have m5:St w0 (PS ((wl.getD (Int.toNat (m.og-1)) bM).b) ((wl.getD (Int.toNat (m.og-1)) bM).x)::aE cA (wl.eraseIdx (Int.toNat (m.og-1)))::aE cM vl::Sl a1 a0 41 40 bC.cells sq::aB lp (aQ.cells (RF n kn vb vc vl wb wc wl cb cc cl)) 214::Sl (sm vb) vc 209 4 aT.cells vl::aB b8 (aH.cells (RH m.bd a2 a3)) 53::aB b5 (aK.cells m) 55::Sl (sm wb) wc 215 1 bD.ptr wl::Sl (sm cb) cc 287 1 bT.cells cl::aE cF cl::L) c2:=m4
    have hpo:=hI.iT (o:=Int.toNat (m.og-1)) za
    refine ZD (gE [0,1,2,3,4,5,6,7,8,9,10,11] (.ef 12 (.rd 13 .done))) m5 ?_
    intro u8 c5 u9
    refine Zj (Hl 3 4 13 c5 (Hl 5 7 0 c5 (eT 6 (m.og-1) (Hx 7 ((m.og-1):Int) (wl.length:Int) wb 0 1 (Hg 8 (.gen [zP ((wl.getD (Int.toNat (m.og-1)) bM).b) 0]) [.cell ⟨wb,0+((Int.toNat (m.og-1))*1),none⟩ (zP ((wl.getD (Int.toNat (m.og-1)) bM).b) 0)] (bE (aC.cV (c5.rows 8 rfl F4.size bM) (k:=Int.toNat (m.og-1)) zo (j:=0) zb zk) aR) (Hl 10 6 1 c5 Hz)))))) ?_
    refine Zc (qe ((wl.getD (Int.toNat (m.og-1)) bM).x) m.bd.vw lo zc zc c5) ?_
    rintro v0 e6 (⟨rfl,m6⟩|⟨a7,rfl,m7,m8,d5⟩)
    ·refine Lz (LT (Lq (Le (Ly (Dz ?_)))))
     refine bY (v:=.bool false) ?_
     have m9:St w0 (cA (wl.getD (Int.toNat (m.og-1)) bM)::aE cA (wl.eraseIdx (Int.toNat (m.og-1)))::aE cM vl::Sl a1 a0 41 40 bC.cells sq::aB lp (aQ.cells (RF n kn vb vc vl wb wc wl cb cc cl)) 214::Sl (sm vb) vc 209 4 aT.cells vl::aB b8 (aH.cells (RH m.bd a2 a3)) 53::aB b5 (aK.cells m) 55::Sl (sm wb) wc 215 1 bD.ptr wl::Sl (sm cb) cc 287 1 bT.cells cl::aE cF cl::L) e6:=m6
     have n0:St w0 (aE cA wl::aE cM vl::Sl a1 a0 41 40 bC.cells sq::aB lp (aQ.cells (RF n kn vb vc vl wb wc wl cb cc cl)) 214::Sl (sm vb) vc 209 4 aT.cells vl::aB b8 (aH.cells (RH m.bd a2 a3)) 53::aB b5 (aK.cells m) 55::Sl (sm wb) wc 215 1 bD.ptr wl::Sl (sm cb) cc 287 1 bT.cells cl::aE cF cl::L) e6:=aE.jK bM za m9
     have n1:=((((((n0.pl 9).pl 9).pl 2).pl 9).pl 4).pl 7).pl 7
     have n2:St w0 (LS lp (t+1) (RF n kn vb vc vl wb wc wl cb cc cl)::Sl a1 a0 41 40 bC.cells sq::aB b8 (aH.cells (RH m.bd a2 a3)) 53::aB b5 (aK.cells m) 55::L) e6:=Bd.close hI.mono n1
     have n4:=(((n2.pl 0).pl 3).pl 3).pl 3
     have n5:=n4.dr 3
     exact⟨false,RF n kn vb vc vl wb wc wl cb cc cl,rfl,rfl,n5⟩
    ·refine Lz (LF (Lk (Lt (Ls (Dz ?_)))))
     refine dE (Hl 3 4 12 d5 Hz) ?_
     refine Zt (Zs ?_)
     refine dZ [6,7] (Hl 1 6 1 d5 (Hl 3 7 1 d5 Hz)) ?_
     refine tW (aT.cells aN) d5 ?_
     intro a8 v1 n6
     refine Lo (Dz ?_)
     refine Zu 0 0 (aT.cells (RG m a1 a0 sq)) n6 ?_
     intro v2 n7
     refine Lo (Ld (Lt (Ls (Dz ?_))))
     refine ZD (gE [0,1,2,3,4,5] (.ef 6 (.ef 7 (gE [8,9] (.ef 10 .done))))) n7 ?_
     intro v3 e7 v4
     refine Zj (Hl 4 5 12 e7 (hP 5 0 0 4 (aT.cells (RG m a1 a0 sq)) e7 Hz)) ?_
     refine aL.bU rfl zk (t:=210) (e:=209) (n:=1) (ps:=[(0,.agg (aT.cells (RG m a1 a0 sq)))]) zk zk (ti:=Tryz.t209) (z:=.agg (aT.cells aN)) zk zk zb zb (cs:=aT.cells (RG m a1 a0 sq)) zk e7 ?_
     intro a9 n8 n9 o0
     have g5:St w0 (Sl (sm a9) 1 209 4 aT.cells ([((RG m a1 a0 sq):aT)])::aB a8 (aT.cells (RG m a1 a0 sq)) 209::PS ((wl.getD (Int.toNat (m.og-1)) bM).b) a7::aE cA (wl.eraseIdx (Int.toNat (m.og-1)))::aE cM vl::Sl a1 a0 41 40 bC.cells sq::aB lp (aQ.cells (RF n kn vb vc vl wb wc wl cb cc cl)) 214::Sl (sm vb) vc 209 4 aT.cells vl::aB b8 (aH.cells (RH m.bd a2 a3)) 53::aB b5 (aK.cells m) 55::Sl (sm wb) wc 215 1 bD.ptr wl::Sl (sm cb) cc 287 1 bT.cells cl::aE cF cl::L) n8:=St.iw (l:=[((RG m a1 a0 sq):aT)]) (f:=aT.cells) n9 o0 jJ.size zf zk
     refine⟨Mv g5 6 rfl [12],?_⟩
     have o1:=g5.pl 7
     refine sD OZ jJ aN o1 zt ?_
     intro d6 a6 v5 o2
     refine Lo (Lw ?_)
     refine Zu 7 12 (aQ.cells (⟨n,kn,d6,a6,(vl++([((RG m a1 a0 sq):aT)])),sm wb,wc,wl,sm cb,cc,cl⟩:aQ)) o2 ?_
     intro o3 o4
     refine Lo (Ld (Lt (Ls (Lb (Dz ?_)))))
     have hie:vl++[RG m a1 a0 sq]=cW vl vl.length (RG m a1 a0 sq):=KA
     have o5:=((((((((((((o4.pl 12).pl 12).pl 12).pl 12).pl 12).pl 11).pl 11).pl 11).pl 11).pl 11).pl 11).pl 11).pl 12
     have o6:St w0 (aB lp (aQ.cells (⟨n,kn,d6,a6,cW vl vl.length (RG m a1 a0 sq),sm wb,wc,wl,sm cb,cc,cl⟩:aQ)) 214::Sl d6 a6 209 4 aT.cells (cW vl vl.length (RG m a1 a0 sq))::Sl (sm a9) 1 209 4 aT.cells ([((RG m a1 a0 sq):aT)])::aB a8 (aT.cells (RG m a1 a0 sq)) 209::PS ((wl.getD (Int.toNat (m.og-1)) bM).b) a7::aE cA (wl.eraseIdx (Int.toNat (m.og-1)))::aE cM vl::Sl a1 a0 41 40 bC.cells sq::aB b8 (aH.cells (RH m.bd a2 a3)) 53::aB b5 (aK.cells m) 55::Sl (sm wb) wc 215 1 bD.ptr wl::Sl (sm cb) cc 287 1 bT.cells cl::aE cF cl::L) o3:=(by rw [<- hie];exact o5)
     refine aX.loop (T:=Nat×aT×(Option Addr)) (λgg=>[(0,zP lp 0),(5,zP b8 0),(14,.int .i64 (gg.1:Nat)),(15,zP a8 0)]) (λgg w=>(gg.1 <= vl.length) /\ St w0 (aB lp (aQ.cells (⟨n,kn,gg.2.2,a6,cW vl gg.1 gg.2.1,sm wb,wc,wl,sm cb,cc,cl⟩:aQ)) 214::Sl gg.2.2 a6 209 4 aT.cells (cW vl gg.1 gg.2.1)::Sl (sm a9) 1 209 4 aT.cells ([((RG m a1 a0 sq):aT)])::aB a8 (aT.cells (RG m a1 a0 sq)) 209::PS ((wl.getD (Int.toNat (m.og-1)) bM).b) a7::aE cA (wl.eraseIdx (Int.toNat (m.og-1)))::aE cM vl::Sl a1 a0 41 40 bC.cells sq::aB b8 (aH.cells (RH m.bd a2 a3)) 53::aB b5 (aK.cells m) 55::Sl (sm wb) wc 215 1 bD.ptr wl::Sl (sm cb) cc 287 1 bT.cells cl::aE cF cl::L) w) (λgg=>gg.1) (vl.length,RG m a1 a0 sq,d6) [0,5,14,15] zk ⟨Nat.le_refl _,o6⟩ ?_
     rintro⟨k,y,aq⟩ v6 ⟨g9,e8⟩
     dsimp only at g9 e8
     have hil:=DB vl y g9
     obtain⟨a5,rfl⟩:=Sl.isSome (e8.at_ 1 rfl) za
     refine Zs (Zs ?_)
     refine aX.join (T:=Unit) (E:=λ_=>[(190,.bool ((decide ((k:Int)>0)) && (decide ((((cW vl k y).getD (k-1) aN).vv:Int)>m.bd.vw)))),(0,zP lp 0),(5,zP b8 0),(14,.int .i64 (k:Nat)),(15,zP a8 0)]) (F:=λ_ w=>St w0 (aB lp (aQ.cells (RF n kn a5 a6 (cW vl k y) wb wc wl cb cc cl)) 214::Sl (sm a5) a6 209 4 aT.cells (cW vl k y)::Sl (sm a9) 1 209 4 aT.cells ([((RG m a1 a0 sq):aT)])::aB a8 (aT.cells (RG m a1 a0 sq)) 209::PS ((wl.getD (Int.toNat (m.og-1)) bM).b) a7::aE cA (wl.eraseIdx (Int.toNat (m.og-1)))::aE cM vl::Sl a1 a0 41 40 bC.cells sq::aB b8 (aH.cells (RH m.bd a2 a3)) 53::aB b5 (aK.cells m) 55::Sl (sm wb) wc 215 1 bD.ptr wl::Sl (sm cb) cc 287 1 bT.cells cl::aE cF cl::L) w) ?_ ?_
     ·refine ZD (gE [0,1,2,3,4,5,6,7,8,9,10,11,12,13,14,15] .done) e8 ?_
      intro v7 c6 v8
      refine Zr 0 3 [] ?_
      refine iy 177 (decide ((k:Int)>0)) (λb9=>?_) (λb9=>?_)
      ·have o7:(k:Int)>0:=of_decide_eq_true b9
       refine kV (Hl 6 0 12 c6 (Hg 8 (.dH (.int .i64 (k-1:Nat)) (.gen [])) [.prop (Value.int .i64 (IntKind.i64.wrap ((k:Nat)-1))=Value.int .i64 (k-1:Nat))] (aJ (ct za za za) aR) (Hx 9 ((k-1:Nat):Int) ((cW vl k y).length:Int) a5 0 4 (Hg 11 (.gen [.int .u64 (((cW vl k y).getD (k-1) aN).vv)]) [.cell ⟨a5,0+((k-1)*4),none⟩ (.int .u64 (((cW vl k y).getD (k-1) aN).vv))] (bE (aC.cV (c6.rows 1 rfl jJ.size aN) (k:=(k-1)) zo (j:=0) zb zk) aR) (Hl 13 8 1 c6 Hz))))) ?_
       refine aS.pick [190,0,5,14,15] (S':=[(190,.bool (decide ((((cW vl k y).getD (k-1) aN).vv:Int)>m.bd.vw))),(0,zP lp 0),(5,zP b8 0),(14,.int .i64 (k:Nat)),(15,zP a8 0)]) zk ?_
       exact aS.eF () (by first|rfl|(simp only [b9,Bool.not_true,Bool.not_false,Bool.true_or,Bool.false_or,Bool.true_and,Bool.false_and,Bool.or_true,Bool.or_false,Bool.and_true,Bool.and_false];done)|(simp [b9];done)) c6
      ·have o7:¬ ((k:Int)>0):=of_decide_eq_false b9
       refine En (cI (Dz ?_))
       refine aS.pick [190,0,5,14,15] (S':=[(190,.bool false),(0,zP lp 0),(5,zP b8 0),(14,.int .i64 (k:Nat)),(15,zP a8 0)]) zk ?_
       exact aS.eF () (by first|rfl|(simp only [b9,Bool.not_true,Bool.not_false,Bool.true_or,Bool.false_or,Bool.true_and,Bool.false_and,Bool.or_true,Bool.or_false,Bool.and_true,Bool.and_false];done)|(simp [b9];done)) c6
     intro _ v9 h1
     refine Zt ?_
     refine eZ (t:=(decide ((k:Int)>0)) && (decide ((((cW vl k y).getD (k-1) aN).vv:Int)>m.bd.vw))) (λe9=>?_) (λe9=>?_)
     ·have o8:(decide ((k:Int)>0))=true:=(Bool.and_eq_true_iff.1 e9).1
      have w1:(k:Int)>0:=of_decide_eq_true o8
      have o9:(decide ((((cW vl k y).getD (k-1) aN).vv:Int)>m.bd.vw))=true:=(Bool.and_eq_true_iff.1 e9).2
      have w2:(((cW vl k y).getD (k-1) aN).vv:Int)>m.bd.vw:=of_decide_eq_true o9
      refine Zk (Zt (Zb (Zs ?_)))
      refine ZD (gE [0,1,2,3,4,5,6,7,8,9,10,11,12,13] (.ef 14 .done)) h1 ?_
      intro w3 d7 w4
      refine Zj (Hl 3 0 12 d7 (Hl 8 0 12 d7 (Hg 10 (.dH (.int .i64 (k-1:Nat)) (.gen [])) [.prop (Value.int .i64 (IntKind.i64.wrap ((k:Nat)-1))=Value.int .i64 (k-1:Nat))] (aJ (ct za za za) aR) (Hx 11 ((k-1:Nat):Int) ((cW vl k y).length:Int) a5 0 4 (Hg 12 (.agg (aT.cells ((cW vl k y).getD (k-1) aN))) [.prop (Array.size (aT.cells ((cW vl k y).getD (k-1) aN))=4),.cells ⟨a5,0+((k-1)*4),none⟩ (aT.cells ((cW vl k y).getD (k-1) aN))] (aJ zk (iN (aC.mj (d7.rows 1 rfl jJ.size aN) (k:=(k-1)) zo (Nat.le_of_ble_eq_true zk) zk) aR)) (Hx 13 (k:Int) ((cW vl k y).length:Int) a5 0 4 Hz)))))) ?_
      refine aL.kO rfl rfl zk (b:=a5) (off:=0+(k*4)) (v:=.agg (aT.cells ((cW vl k y).getD (k-1) aN))) zk zk (ti:=Tryz.t209) zk d7 1 jJ.size rfl zk zk (by rw [Nat.zero_add];exact gI (f:=aT.cells) (size:=4) (l:=cW vl k y) (k:=k) (o:=0) (n:=4) jJ.size zo zb) (List.length_set ..) (xs':=(cW vl k y).set k ((cW vl k y).getD (k-1) aN)) (by rw [Nat.zero_add];exact eN (f:=aT.cells) (size:=4) (l:=cW vl k y) (k:=k) (o:=0) jJ.size zo aN ((cW vl k y).getD (k-1) aN) (Nat.le_of_ble_eq_true rfl) zk) (L':=(aB lp (aQ.cells (RF n kn a5 a6 (cW vl k y) wb wc wl cb cc cl)) 214)::Sl (sm a5) a6 209 4 aT.cells ((cW vl k y).set k ((cW vl k y).getD (k-1) aN))::Sl (sm a9) 1 209 4 aT.cells ([((RG m a1 a0 sq):aT)])::aB a8 (aT.cells (RG m a1 a0 sq)) 209::PS ((wl.getD (Int.toNat (m.og-1)) bM).b) a7::aE cA (wl.eraseIdx (Int.toNat (m.og-1)))::aE cM vl::Sl a1 a0 41 40 bC.cells sq::aB b8 (aH.cells (RH m.bd a2 a3)) 53::aB b5 (aK.cells m) 55::Sl (sm wb) wc 215 1 bD.ptr wl::Sl (sm cb) cc 287 1 bT.cells cl::aE cF cl::L) rfl ?_
      intro p0 p1
      refine Lo (Ld (Lt (Dz ?_)))
      refine dE (Hg 1 (.dH (.int .i64 (k-1:Nat)) (.gen [])) [.prop (Value.int .i64 (IntKind.i64.wrap ((k:Nat)-1))=Value.int .i64 (k-1:Nat))] (aJ (ct za za za) aR) Hz) ?_
      refine Zm ?_
      have p2:(cW vl k y).set k ((cW vl k y).getD (k-1) aN)=cW vl (k-1) (vl.getD (k-1) aN):=by rw [I4 za za,DC za,I5 za za]
      have p3:St w0 (aB lp (aQ.cells (RF n kn a5 a6 (cW vl (k-1) (vl.getD (k-1) aN)) wb wc wl cb cc cl)) 214::Sl (sm a5) a6 209 4 aT.cells (cW vl (k-1) (vl.getD (k-1) aN))::Sl (sm a9) 1 209 4 aT.cells ([((RG m a1 a0 sq):aT)])::aB a8 (aT.cells (RG m a1 a0 sq)) 209::PS ((wl.getD (Int.toNat (m.og-1)) bM).b) a7::aE cA (wl.eraseIdx (Int.toNat (m.og-1)))::aE cM vl::Sl a1 a0 41 40 bC.cells sq::aB b8 (aH.cells (RH m.bd a2 a3)) 53::aB b5 (aK.cells m) 55::Sl (sm wb) wc 215 1 bD.ptr wl::Sl (sm cb) cc 287 1 bT.cells cl::aE cF cl::L) p0:=(by rw [<- p2];simp only [aQ.cells,List.length_set];exact p1)
      exact aS.back (k-1,vl.getD (k-1) aN,some ⟨a5,0,none⟩) [0,5,14,15] zk (by show(k-1)<k;omega) ⟨za,p3⟩
     ·refine Zx (aS.eQ (aS.eR (aS.kI (Zt (Zs ?_)))))
      refine ZD (gE [0,1,2,3,4,5,6] (.ef 7 .done)) h1 ?_
      intro w5 f0 w7
      refine Zj (Hl 3 0 12 f0 (hP 5 3 0 4 (aT.cells (RG m a1 a0 sq)) f0 (Hx 6 (k:Int) ((cW vl k y).length:Int) a5 0 4 Hz))) ?_
      refine aL.kO rfl rfl zk (b:=a5) (off:=0+(k*4)) (v:=.agg (aT.cells (RG m a1 a0 sq))) zk zk (ti:=Tryz.t209) zk f0 1 jJ.size rfl zk zk (by rw [Nat.zero_add];exact gI (f:=aT.cells) (size:=4) (l:=cW vl k y) (k:=k) (o:=0) (n:=4) jJ.size zo zb) (List.length_set ..) (xs':=(cW vl k y).set k (RG m a1 a0 sq)) (by rw [Nat.zero_add];exact eN (f:=aT.cells) (size:=4) (l:=cW vl k y) (k:=k) (o:=0) jJ.size zo aN (RG m a1 a0 sq) (Nat.le_of_ble_eq_true rfl) zk) (L':=(aB lp (aQ.cells (RF n kn a5 a6 (cW vl k y) wb wc wl cb cc cl)) 214)::Sl (sm a5) a6 209 4 aT.cells ((cW vl k y).set k (RG m a1 a0 sq))::Sl (sm a9) 1 209 4 aT.cells ([((RG m a1 a0 sq):aT)])::aB a8 (aT.cells (RG m a1 a0 sq)) 209::PS ((wl.getD (Int.toNat (m.og-1)) bM).b) a7::aE cA (wl.eraseIdx (Int.toNat (m.og-1)))::aE cM vl::Sl a1 a0 41 40 bC.cells sq::aB b8 (aH.cells (RH m.bd a2 a3)) 53::aB b5 (aK.cells m) 55::Sl (sm wb) wc 215 1 bD.ptr wl::Sl (sm cb) cc 287 1 bT.cells cl::aE cF cl::L) rfl ?_
      intro b4 p4
      refine Lo (Ld (Lt (Lq (Le (Dz ?_)))))
      refine bY (v:=.bool true) ?_
      have p5:(cW vl k y).set k (RG m a1 a0 sq)=(cW vl k (RG m a1 a0 sq)):=DC za
      have p6:St w0 (aB lp (aQ.cells (RF n kn a5 a6 (cW vl k (RG m a1 a0 sq)) wb wc wl cb cc cl)) 214::Sl (sm a5) a6 209 4 aT.cells (cW vl k (RG m a1 a0 sq))::Sl (sm a9) 1 209 4 aT.cells ([((RG m a1 a0 sq):aT)])::aB a8 (aT.cells (RG m a1 a0 sq)) 209::PS ((wl.getD (Int.toNat (m.og-1)) bM).b) a7::aE cA (wl.eraseIdx (Int.toNat (m.og-1)))::aE cM vl::Sl a1 a0 41 40 bC.cells sq::aB b8 (aH.cells (RH m.bd a2 a3)) 53::aB b5 (aK.cells m) 55::Sl (sm wb) wc 215 1 bD.ptr wl::Sl (sm cb) cc 287 1 bT.cells cl::aE cF cl::L) b4:=(by rw [<- p5];simp only [aQ.cells,List.length_set];exact p4)
      have p7:=p6.pl 4
      have p8:St w0 (cA (⟨(wl.getD (Int.toNat (m.og-1)) bM).b,a7⟩:bD)::aB lp (aQ.cells (RF n kn a5 a6 (cW vl k (RG m a1 a0 sq)) wb wc wl cb cc cl)) 214::Sl (sm a5) a6 209 4 aT.cells (cW vl k (RG m a1 a0 sq))::Sl (sm a9) 1 209 4 aT.cells ([((RG m a1 a0 sq):aT)])::aB a8 (aT.cells (RG m a1 a0 sq)) 209::aE cA (wl.eraseIdx (Int.toNat (m.og-1)))::aE cM vl::Sl a1 a0 41 40 bC.cells sq::aB b8 (aH.cells (RH m.bd a2 a3)) 53::aB b5 (aK.cells m) 55::Sl (sm wb) wc 215 1 bD.ptr wl::Sl (sm cb) cc 287 1 bT.cells cl::aE cF cl::L) b4:=p7
      have p9:=(p8.pl 5).pl 1
      have q0:St w0 (aE cA (wl.set (Int.toNat (m.og-1)) (⟨(wl.getD (Int.toNat (m.og-1)) bM).b,a7⟩:bD))::aB lp (aQ.cells (RF n kn a5 a6 (cW vl k (RG m a1 a0 sq)) wb wc wl cb cc cl)) 214::Sl (sm a5) a6 209 4 aT.cells (cW vl k (RG m a1 a0 sq))::Sl (sm a9) 1 209 4 aT.cells ([((RG m a1 a0 sq):aT)])::aB a8 (aT.cells (RG m a1 a0 sq)) 209::aE cM vl::Sl a1 a0 41 40 bC.cells sq::aB b8 (aH.cells (RH m.bd a2 a3)) 53::aB b5 (aK.cells m) 55::Sl (sm wb) wc 215 1 bD.ptr wl::Sl (sm cb) cc 287 1 bT.cells cl::aE cF cl::L) b4:=aE.put za p9
      have r0:=q0.pl 9
      have r4:St w0 (Sl (sm wb) wc 215 1 bD.ptr (wl.set (Int.toNat (m.og-1)) (⟨(wl.getD (Int.toNat (m.og-1)) bM).b,a7⟩:bD))::aE cA (wl.set (Int.toNat (m.og-1)) (⟨(wl.getD (Int.toNat (m.og-1)) bM).b,a7⟩:bD))::aB lp (aQ.cells (RF n kn a5 a6 (cW vl k (RG m a1 a0 sq)) wb wc wl cb cc cl)) 214::Sl (sm a5) a6 209 4 aT.cells (cW vl k (RG m a1 a0 sq))::Sl (sm a9) 1 209 4 aT.cells ([((RG m a1 a0 sq):aT)])::aB a8 (aT.cells (RG m a1 a0 sq)) 209::aE cM vl::Sl a1 a0 41 40 bC.cells sq::aB b8 (aH.cells (RH m.bd a2 a3)) 53::aB b5 (aK.cells m) 55::Sl (sm cb) cc 287 1 bT.cells cl::aE cF cl::L) b4:=(by rw [oH _ _ _ za];exact r0)
      have r5:=St.eB r4 296 41 dT.cells
      have r6:=(r5.pl 0).pl 8
      have r7:St w0 (cM (RG m a1 a0 sq)::Sl (sm wb) wc 215 1 bD.ptr (wl.set (Int.toNat (m.og-1)) (⟨(wl.getD (Int.toNat (m.og-1)) bM).b,a7⟩:bD))::aE cA (wl.set (Int.toNat (m.og-1)) (⟨(wl.getD (Int.toNat (m.og-1)) bM).b,a7⟩:bD))::aB lp (aQ.cells (RF n kn a5 a6 (cW vl k (RG m a1 a0 sq)) wb wc wl cb cc cl)) 214::Sl (sm a5) a6 209 4 aT.cells (cW vl k (RG m a1 a0 sq))::Sl (sm a9) 1 209 4 aT.cells ([((RG m a1 a0 sq):aT)])::aB a8 (aT.cells (RG m a1 a0 sq)) 209::aE cM vl::aB b8 (aH.cells (RH m.bd a2 a3)) 53::aB b5 (aK.cells m) 55::Sl (sm cb) cc 287 1 bT.cells cl::aE cF cl::L) b4:=Bd.close trivial r6
      have r8:=(r7.pl 7).pl 1
      have r9:St w0 (aE cM (vl++[RG m a1 a0 sq])::Sl (sm wb) wc 215 1 bD.ptr (wl.set (Int.toNat (m.og-1)) (⟨(wl.getD (Int.toNat (m.og-1)) bM).b,a7⟩:bD))::aE cA (wl.set (Int.toNat (m.og-1)) (⟨(wl.getD (Int.toNat (m.og-1)) bM).b,a7⟩:bD))::aB lp (aQ.cells (RF n kn a5 a6 (cW vl k (RG m a1 a0 sq)) wb wc wl cb cc cl)) 214::Sl (sm a5) a6 209 4 aT.cells (cW vl k (RG m a1 a0 sq))::Sl (sm a9) 1 209 4 aT.cells ([((RG m a1 a0 sq):aT)])::aB a8 (aT.cells (RG m a1 a0 sq)) 209::aB b8 (aH.cells (RH m.bd a2 a3)) 53::aB b5 (aK.cells m) 55::Sl (sm cb) cc 287 1 bT.cells cl::aE cF cl::L) b4:=aE.add r8
      have s0:St w0 (aE cM (cW vl k (RG m a1 a0 sq))::Sl (sm wb) wc 215 1 bD.ptr (wl.set (Int.toNat (m.og-1)) (⟨(wl.getD (Int.toNat (m.og-1)) bM).b,a7⟩:bD))::aE cA (wl.set (Int.toNat (m.og-1)) (⟨(wl.getD (Int.toNat (m.og-1)) bM).b,a7⟩:bD))::aB lp (aQ.cells (RF n kn a5 a6 (cW vl k (RG m a1 a0 sq)) wb wc wl cb cc cl)) 214::Sl (sm a5) a6 209 4 aT.cells (cW vl k (RG m a1 a0 sq))::Sl (sm a9) 1 209 4 aT.cells ([((RG m a1 a0 sq):aT)])::aB a8 (aT.cells (RG m a1 a0 sq)) 209::aB b8 (aH.cells (RH m.bd a2 a3)) 53::aB b5 (aK.cells m) 55::Sl (sm cb) cc 287 1 bT.cells cl::aE cF cl::L) b4:=aE.perm ((List.perm_append_comm (l₂:=[RG m a1 a0 sq])).trans Ab.symm) r9
      have s1:St w0 (aE cM (cW vl k (RG m a1 a0 sq))::Sl (sm wb) wc 215 1 bD.ptr (wl.set (Int.toNat (m.og-1)) (⟨(wl.getD (Int.toNat (m.og-1)) bM).b,a7⟩:bD))::aE cA (wl.set (Int.toNat (m.og-1)) (⟨(wl.getD (Int.toNat (m.og-1)) bM).b,a7⟩:bD))::aB lp (aQ.cells (RF n kn a5 a6 (cW vl k (RG m a1 a0 sq)) wb wc (wl.set (Int.toNat (m.og-1)) (⟨(wl.getD (Int.toNat (m.og-1)) bM).b,a7⟩:bD)) cb cc cl)) 214::Sl (sm a5) a6 209 4 aT.cells (cW vl k (RG m a1 a0 sq))::Sl (sm a9) 1 209 4 aT.cells ([((RG m a1 a0 sq):aT)])::aB a8 (aT.cells (RG m a1 a0 sq)) 209::aB b8 (aH.cells (RH m.bd a2 a3)) 53::aB b5 (aK.cells m) 55::Sl (sm cb) cc 287 1 bT.cells cl::aE cF cl::L) b4:=(by simp only [aQ.cells,List.length_set];exact s0)
      have s2:=((((((s1.pl 10).pl 10).pl 4).pl 4).pl 4).pl 6).pl 6
      have s3:St w0 (LS lp (t+1) (RF n kn a5 a6 (cW vl k (RG m a1 a0 sq)) wb wc (wl.set (Int.toNat (m.og-1)) (⟨(wl.getD (Int.toNat (m.og-1)) bM).b,a7⟩:bD)) cb cc cl)::Sl (sm a9) 1 209 4 aT.cells ([((RG m a1 a0 sq):aT)])::aB a8 (aT.cells (RG m a1 a0 sq)) 209::aB b8 (aH.cells (RH m.bd a2 a3)) 53::aB b5 (aK.cells m) 55::L) b4:=Bd.close (hI.begin za Ab (by rw [m7,<- hsl]) rfl (by show sq.length <= t;omega) m8 ⟨hvw.1,by show m.bd.vw<_;omega⟩ (by show m.bd.vw % n=_;omega) (hI.Rk za)) s2
      have s4:=((((s3.pl 0).pl 4).pl 4).pl 4).pl 4
      have s5:=s4.dr 4
      exact⟨true,RF n kn a5 a6 (cW vl k (RG m a1 a0 sq)) wb wc (wl.set (Int.toNat (m.og-1)) (⟨(wl.getD (Int.toNat (m.og-1)) bM).b,a7⟩:bD)) cb cc cl,rfl,rfl,s5⟩
end Go.Proofs.YthfpmlpoiocfdaaGreatDoor
