/-
  Several texts in one: WdF, WdG.
-/
import Derived.Test.YthfpmlpoiocfdaaGreatDoorGbB
namespace Go.Proofs.YthfpmlpoiocfdaaGreatDoor
open Go.RowKit Go.Sx
set_option linter.unusedVariables false
set_option linter.unusedSimpArgs false
set_option linter.unnecessarySimpa false
set_option maxRecDepth 100000
variable {w0 w : World} {L : List bA}
section
variable {t : Nat} {n : Int} {vl : List aT} {wl : List bD} {cl : List bT}
theorem Inv.KB (h:Inv t n vl wl cl){o:Nat}(ho:o<wl.length) (h0:0<(wl.getD o bM).x.ll.length):Has vl (dM (wl.getD o bM).x).vw (dM (wl.getD o bM).x).lg:=(h.iT ho).2 _ (bJ za)
theorem Inv.Qn (h:Inv t n vl wl cl){i o:Nat}(hi:i<vl.length) (ho:o<wl.length) (h0:0<(wl.getD o bM).x.ll.length){v:Int}(hv:(vl.getD i aN).vv=v) (e:v=(dM (wl.getD o bM).x).vw){x:aT}(hx:x.vv=(vl.getD i aN).vv) (e2:x.sl.length+x.pl.length=(vl.getD i aN).sl.length+(vl.getD i aN).pl.length+1):Has (vl.set i x) (dM (wl.getD o bM).x).vw ((dM (wl.getD o bM).x).lg+1):=by
 have u:=h.once hi (k:=(dM (wl.getD o bM).x).lg) (by rw [hv,e];exact h.KB ho h0)
 exact⟨x,List.mem_iff_getElem.2 ⟨i,by rw [List.length_set];exact hi,by simp⟩,by rw [hx,hv,e],za,za⟩
theorem Inv.Rl (h:Inv t n vl wl cl){i o:Nat}(hi:i<vl.length) (ho:o<wl.length) (h0:0<(wl.getD o bM).x.ll.length){v ms:Int}(hv:(vl.getD i aN).vv=v) (e:v=(dM (wl.getD o bM).x).vw) (h1:(dM (wl.getD o bM).x).lg+1 <= ms) (h2:ms <= (((vl.getD i aN).sl.length+(vl.getD i aN).pl.length:Nat):Int)):Has vl (dM (wl.getD o bM).x).vw ((dM (wl.getD o bM).x).lg+1):=by
 have u:=(h.KB ho h0).lt h.hs
 exact⟨_,bJ hi,by rw [hv,e],za,za⟩
end
theorem wG {lp:Nat}(t:Nat) (x:aQ) (m:aK) (hm:lP m) (hmay:gv m=true) (hq:m.bd.kd=4 -> ∀ i,i<m.bd.ql.length -> 1 <= (m.bd.ql.getD i bG).rp /\ (m.bd.ql.getD i bG).rp <= x.n) (hog:1 <= m.og /\ m.og <= x.n) (ht:t <= 100) (hql:m.bd.ql.length <= 100) (hr:Rw w0 L bu.cells 2 bG m.bd.qa m.bd.ql) (hs:St w0 (LS lp t x::L) w):Cs Tryz.prog 107 #[zP lp 0,.agg (aK.cells m)] w λrv w'=>∃ (ob2:Bool) (y2:aQ),rv=.bool ob2 /\ y2.n=x.n /\ St w0 (LS lp (t+1) y2::L) w':=by
 obtain⟨n,kn,va,vc,vl,wa,wc,wl,ca,cc,cl⟩:=x
 obtain⟨hI0,i5⟩:=Bd.open hs
 have hI:Inv t n vl wl cl:=hI0
 have e7:St w0 (aB lp (aQ.cells (⟨n,kn,va,vc,vl,wa,wc,wl,ca,cc,cl⟩:aQ)) 214::Sl va vc 209 4 aT.cells vl::aE cM vl::Sl wa wc 215 1 bD.ptr wl::aE cA wl::Sl ca cc 287 1 bT.cells cl::aE cF cl::L) w:=i5
 have hn:3 <= n /\ n <= 11:=⟨hI.n3,hI.Jw⟩
 have hwl:=hI.hw
 have hcl:=hI.hc
 have hvt:=hI.hv
 have hvl:0<vl.length:=by obtain⟨z,hz,-⟩:=hI.h0;exact List.length_pos_of_mem hz
 obtain⟨vb,rfl⟩:=Sl.isSome (e7.at_ 1 rfl) za
 obtain⟨wb,rfl⟩:=Sl.isSome (e7.at_ 3 rfl) za
 obtain⟨cb,rfl⟩:=Sl.isSome (e7.at_ 5 rfl) za
 have i6:m.bd.kd=4 -> ∀ i,i<m.bd.ql.length -> 1 <= (m.bd.ql.getD i bG).rp /\ (m.bd.ql.getD i bG).rp <= n:=hq
 have i7:1 <= m.og /\ m.og <= n:=hog
 have hvw:=hm.bd.vw
 have hnr:=hm.nr
 have hpo:=hI.iT (o:=Int.toNat (m.og-1)) za
 refine dF Tryz.func107 Tryz.ntmps107 (En (Ls (Lg [0] (Dz (mT (aK.cells m) e7 λb5 w6 i8=>Lz (Ls (Dz (ZD (gE [0,1,2,3,4,5,6,7,8,9] .done) i8 λw8 e8 ew=>kV (Hl 3 1 13 e8 (Hl 5 0 0 e8 (eT 6 (m.og-1) (Hx 7 ((m.og-1):Int) (wl.length:Int) wb 0 1 (Hg 8 (.gen [zP ((wq wl (m.og-1)).b) 0]) [.cell ⟨wb,0+((Int.toNat (m.og-1))*1),none⟩ (zP ((wq wl (m.og-1)).b) 0)] (bE (aC.cV (e8.rows 4 rfl F4.size bM) (k:=Int.toNat (m.og-1)) zo (j:=0) zb zk) aR) Hz))))) (Zt (Zs ?_))))))))))
 have i9:=e8.pl 5
 have j0:St w0 (cA (wq wl (m.og-1))::aE cA (wl.eraseIdx (Int.toNat (m.og-1)))::aB b5 (aK.cells m) 55::aB lp (aQ.cells (RF n kn vb vc vl wb wc wl cb cc cl)) 214::Sl (sm vb) vc 209 4 aT.cells vl::aE cM vl::Sl (sm wb) wc 215 1 bD.ptr wl::Sl (sm cb) cc 287 1 bT.cells cl::aE cF cl::L) w8:=aE.take bM za i9
 have h6:St w0 (PS ((wq wl (m.og-1)).b) ((wq wl (m.og-1)).x)::aE cA (wl.eraseIdx (Int.toNat (m.og-1)))::aB b5 (aK.cells m) 55::aB lp (aQ.cells (RF n kn vb vc vl wb wc wl cb cc cl)) 214::Sl (sm vb) vc 209 4 aT.cells vl::aE cM vl::Sl (sm wb) wc 215 1 bD.ptr wl::Sl (sm cb) cc 287 1 bT.cells cl::aE cF cl::L) w8:=j0
 refine dZ [2,3] (hP 1 2 13 76 (aH.cells m.bd) h6 Hz) (tW (aH.cells qx) h6 λa0 ex j1=>Lo (Dz (Zu 0 0 (aH.cells m.bd) j1 λey j2=>Lo (Ld (Lt (Ls (Dz (ZD (gE [0,1,2,3,4,5,7,8] (.ef 6 (gE [9,10] .done))) j2 λez e9 fb=>Zj (Hl 3 4 0 e9 (Hl 5 0 1 e9 (Hl 8 3 0 e9 Hz))) (Zc (na n m.bd.vw zc zc e9) ?_)))))))))
 rintro fc fe ⟨a8,rfl,ff,fg,f3⟩
 refine⟨Mv f3 3 rfl [0],En (cI (Lt (Ls (Dz (dZ [3] (Hl 2 0 1 f3 Hz) (Zc (rQ m.bd.vw zc ((f3.pl 5).pl 5)) ?_))))))⟩
 rintro fh b7 ⟨u,rfl,f4,b0⟩
 refine Lz (Ls (Ls (Dz (dE (Hl 1 2 0 b0 Hz) (En (Lt (Lb (Lq (Dz (eZ (t:=(m.bd.kd:Int) == 3) (λf5=>?_) (λf5=>?_)))))))))))
 ·have j4:=kr f5
  refine Zs (Zs (dZ [3] (Hl 2 2 1 b0 Hz) (Zc (wC ((wq wl (m.og-1)).x) m.bd.vw zc (b0.pl 3)) ?_)))
  rintro fi d5 (⟨rfl,j6⟩|⟨a7,rfl,j7,j8⟩)
  ·refine Lz (LT (Lq (Le (Ly (Ll (Ly (Dz (bY (v:=.bool false) ?_))))))))
   have j9:St w0 (cA (wq wl (m.og-1))::aB lp (aQ.cells (RF n kn vb vc vl wb wc wl cb cc cl)) 214::Sl (sm vb) vc 209 4 aT.cells vl::aB a0 (aH.cells m.bd) 53::aE cA (wl.eraseIdx (Int.toNat (m.og-1)))::aB b5 (aK.cells m) 55::aE cM vl::Sl (sm wb) wc 215 1 bD.ptr wl::Sl (sm cb) cc 287 1 bT.cells cl::aE cF cl::L) d5:=j6
   have k0:=(j9.pl 4).pl 1
   have k1:St w0 (aE cA wl::aB lp (aQ.cells (RF n kn vb vc vl wb wc wl cb cc cl)) 214::Sl (sm vb) vc 209 4 aT.cells vl::aB a0 (aH.cells m.bd) 53::aB b5 (aK.cells m) 55::aE cM vl::Sl (sm wb) wc 215 1 bD.ptr wl::Sl (sm cb) cc 287 1 bT.cells cl::aE cF cl::L) d5:=aE.jK bM za k0
   have k2:=((((((k1.pl 8).pl 8).pl 2).pl 8).pl 8).pl 6).pl 6
   have k3:St w0 (LS lp (t+1) (RF n kn vb vc vl wb wc wl cb cc cl)::aB a0 (aH.cells m.bd) 53::aB b5 (aK.cells m) 55::L) d5:=Bd.close hI.mono k2
   have k4:=((k3.pl 0).pl 2).pl 2
   exact⟨false,RF n kn vb vc vl wb wc wl cb cc cl,rfl,rfl,k4.dr 2⟩
  ·refine Lz (LF (Lk (Lt (Ls (Dz ?_)))))
   have k6:=j8.pl 9
   have k7:St w0 (cF (cq cl (m.og-1))::aE cF (cl.eraseIdx (Int.toNat (m.og-1)))::PS ((wq wl (m.og-1)).b) a7::aB lp (aQ.cells (RF n kn vb vc vl wb wc wl cb cc cl)) 214::Sl (sm vb) vc 209 4 aT.cells vl::aB a0 (aH.cells m.bd) 53::aE cA (wl.eraseIdx (Int.toNat (m.og-1)))::aB b5 (aK.cells m) 55::aE cM vl::Sl (sm wb) wc 215 1 bD.ptr wl::Sl (sm cb) cc 287 1 bT.cells cl::L) d5:=aE.take cE za k6
   obtain⟨_,k8⟩:=Bd.open k7
   have k9:St w0 (Sl ((cq cl (m.og-1)).ca) ((cq cl (m.og-1)).cc) 289 2 dY.cells ((cq cl (m.og-1)).cl)::aE cF (cl.eraseIdx (Int.toNat (m.og-1)))::PS ((wq wl (m.og-1)).b) a7::aB lp (aQ.cells (RF n kn vb vc vl wb wc wl cb cc cl)) 214::Sl (sm vb) vc 209 4 aT.cells vl::aB a0 (aH.cells m.bd) 53::aE cA (wl.eraseIdx (Int.toNat (m.og-1)))::aB b5 (aK.cells m) 55::aE cM vl::Sl (sm wb) wc 215 1 bD.ptr wl::Sl (sm cb) cc 287 1 bT.cells cl::L) d5:=k8
   refine ZD (gE [0,1,2,3,4,5,6,7,8,9,10,11,12,13,14,15,16,17,18,19,20] (.ef 21 (.ef 22 (.rd 23 (.ef 24 .done))))) k9 λfj b9 fk=>Zj (Hl 3 3 14 b9 (Hl 5 7 0 b9 (eT 6 (m.og-1) (Hl 10 3 14 b9 (Hl 12 7 0 b9 (eT 13 (m.og-1) (Hx 14 ((m.og-1):Int) (cl.length:Int) cb 0 1 (Hg 15 (.gen [.slice ((cq cl (m.og-1)).ca) ((cq cl (m.og-1)).cl.length) ((cq cl (m.og-1)).cc)]) [.cell ⟨cb,0+((Int.toNat (m.og-1))*1),none⟩ (.slice ((cq cl (m.og-1)).ca) ((cq cl (m.og-1)).cl.length) ((cq cl (m.og-1)).cc))] (bE (aC.cV (b9.rows 10 rfl Dy.size cE) (k:=Int.toNat (m.og-1)) zo (j:=0) zb zk) aR) (Hl 17 5 1 b9 (Hl 19 7 1 b9 Hz)))))))))) (aL.bU rfl zk (t:=287) (e:=289) (n:=1) (ps:=[(0,.agg (dY.cells (⟨m.bd.vw,m.nr⟩:dY)))]) zk zk (ti:=Tryz.t289) (z:=.agg (dY.cells nL)) zk zk zb zb (cs:=dY.cells (⟨m.bd.vw,m.nr⟩:dY)) zk b9 λb3 l0 l1 l2=>?_)
   have c6:St w0 (Sl (sm b3) 1 289 2 dY.cells ([((⟨m.bd.vw,m.nr⟩:dY):dY)])::Sl ((cq cl (m.og-1)).ca) ((cq cl (m.og-1)).cc) 289 2 dY.cells ((cq cl (m.og-1)).cl)::aE cF (cl.eraseIdx (Int.toNat (m.og-1)))::PS ((wq wl (m.og-1)).b) a7::aB lp (aQ.cells (RF n kn vb vc vl wb wc wl cb cc cl)) 214::Sl (sm vb) vc 209 4 aT.cells vl::aB a0 (aH.cells m.bd) 53::aE cA (wl.eraseIdx (Int.toNat (m.og-1)))::aB b5 (aK.cells m) 55::aE cM vl::Sl (sm wb) wc 215 1 bD.ptr wl::Sl (sm cb) cc 287 1 bT.cells cl::L) l0:=St.iw (l:=[((⟨m.bd.vw,m.nr⟩:dY):dY)]) (f:=dY.cells) l1 l2 F3.size zf zk
   refine⟨gR (n:=[.cell ⟨cb,0+((Int.toNat (m.og-1))*1),none⟩ (.slice ((cq cl (m.og-1)).ca) ((cq cl (m.og-1)).cl.length) ((cq cl (m.og-1)).cc)),.prop (0 <= ((m.og-1):Int) /\ ((m.og-1):Int)<(cl.length:Int)),.prop (Value.pointer (some (Addr.add ⟨cb,0,none⟩ (Int.toNat (m.og-1)*1)))=Value.pointer (some ⟨cb,0+((Int.toNat (m.og-1))*1),none⟩)),.prop (Value.int .i64 (IntKind.i64.wrap (m.og-1))=Value.int .i64 (m.og-1)),.cell ⟨b5,0,none⟩ (.int .i64 m.og),.cell ⟨lp,14,none⟩ (zL cb 0 cl.length cc),.prop (Value.int .i64 (IntKind.i64.wrap (m.og-1))=Value.int .i64 (m.og-1)),.cell ⟨b5,0,none⟩ (.int .i64 m.og),.cell ⟨lp,14,none⟩ (zL cb 0 cl.length cc)]) zk (bE (aC.cV (c6.rows 11 rfl Dy.size cE) (k:=Int.toNat (m.og-1)) zo (j:=0) zb zk) (aJ za (aJ (aU _ _ _) (aJ (iD za za) (bE (c6.cell 8 rfl zk) (bE (c6.cell 4 rfl zk) (aJ (iD za za) (bE (c6.cell 8 rfl zk) (bE (c6.cell 4 rfl zk) aR))))))))),(sD O0 F3 nL (c6.pl 1) (by simp only [List.length_cons,List.length_nil];first|omega|(have:=(hI.hg _ (bJ (d:=cE) (show Int.toNat (m.og-1)<cl.length by omega))).1;unfold cq;omega)) λa3 a4 fl f6=>⟨gR (n:=[.prop (Value.int .i64 (IntKind.i64.wrap (m.og-1))=Value.int .i64 (m.og-1)),.cell ⟨b5,0,none⟩ (.int .i64 m.og),.cell ⟨lp,14,none⟩ (zL cb 0 cl.length cc)]) zk (aJ (iD za za) (bE (f6.cell 8 rfl zk) (bE (f6.cell 4 rfl zk) aR))),Zj (Hx 23 ((m.og-1):Int) (cl.length:Int) cb 0 1 Hz) (aL.kO rfl rfl zk (b:=cb) (off:=0+((Int.toNat (m.og-1))*1)) (v:=.slice a3 ((((cq cl (m.og-1)).cl)++([((⟨m.bd.vw,m.nr⟩:dY):dY)])).length) a4) zk zk (ti:=Tryz.t287) zk f6 11 Dy.size rfl zk zk (by rw [Nat.zero_add];exact gI (f:=bT.cells) (size:=1) (l:=cl) (k:=Int.toNat (m.og-1)) (o:=0) (n:=1) Dy.size zo zb) (List.length_set ..) (xs':=cl.set (Int.toNat (m.og-1)) (⟨a3,a4,(((cq cl (m.og-1)).cl)++([((⟨m.bd.vw,m.nr⟩:dY):dY)]))⟩:bT)) (by rw [Nat.zero_add];exact eN (f:=bT.cells) (size:=1) (l:=cl) (k:=Int.toNat (m.og-1)) (o:=0) Dy.size zo cE (⟨a3,a4,(((cq cl (m.og-1)).cl)++([((⟨m.bd.vw,m.nr⟩:dY):dY)]))⟩:bT) (Nat.le_of_ble_eq_true rfl) zk) (L':=(Sl a3 a4 289 2 dY.cells (((cq cl (m.og-1)).cl)++([((⟨m.bd.vw,m.nr⟩:dY):dY)])))::Sl (sm b3) 1 289 2 dY.cells ([((⟨m.bd.vw,m.nr⟩:dY):dY)])::aE cF (cl.eraseIdx (Int.toNat (m.og-1)))::PS ((wq wl (m.og-1)).b) a7::aB lp (aQ.cells (RF n kn vb vc vl wb wc wl cb cc cl)) 214::Sl (sm vb) vc 209 4 aT.cells vl::aB a0 (aH.cells m.bd) 53::aE cA (wl.eraseIdx (Int.toNat (m.og-1)))::aB b5 (aK.cells m) 55::aE cM vl::Sl (sm wb) wc 215 1 bD.ptr wl::Sl (sm cb) cc 287 1 bT.cells (cl.set (Int.toNat (m.og-1)) (⟨a3,a4,(((cq cl (m.og-1)).cl)++([((⟨m.bd.vw,m.nr⟩:dY):dY)]))⟩:bT))::L) rfl λc0 l4=>Lo (Ld (Lt (Lq (Le (Ll (Ly (Dz (bY (v:=.bool true) ?_)))))))))⟩)⟩
   have l5:St w0 (cF (⟨a3,a4,(((cq cl (m.og-1)).cl)++([((⟨m.bd.vw,m.nr⟩:dY):dY)]))⟩:bT)::Sl (sm b3) 1 289 2 dY.cells ([((⟨m.bd.vw,m.nr⟩:dY):dY)])::aE cF (cl.eraseIdx (Int.toNat (m.og-1)))::PS ((wq wl (m.og-1)).b) a7::aB lp (aQ.cells (RF n kn vb vc vl wb wc wl cb cc cl)) 214::Sl (sm vb) vc 209 4 aT.cells vl::aB a0 (aH.cells m.bd) 53::aE cA (wl.eraseIdx (Int.toNat (m.og-1)))::aB b5 (aK.cells m) 55::aE cM vl::Sl (sm wb) wc 215 1 bD.ptr wl::Sl (sm cb) cc 287 1 bT.cells (cl.set (Int.toNat (m.og-1)) (⟨a3,a4,(((cq cl (m.og-1)).cl)++([((⟨m.bd.vw,m.nr⟩:dY):dY)]))⟩:bT))::L) c0:=Bd.close trivial l4
   have l6:=(l5.pl 2).pl 1
   have l7:St w0 (aE cF (cl.set (Int.toNat (m.og-1)) (⟨a3,a4,(((cq cl (m.og-1)).cl)++([((⟨m.bd.vw,m.nr⟩:dY):dY)]))⟩:bT))::Sl (sm b3) 1 289 2 dY.cells ([((⟨m.bd.vw,m.nr⟩:dY):dY)])::PS ((wq wl (m.og-1)).b) a7::aB lp (aQ.cells (RF n kn vb vc vl wb wc wl cb cc cl)) 214::Sl (sm vb) vc 209 4 aT.cells vl::aB a0 (aH.cells m.bd) 53::aE cA (wl.eraseIdx (Int.toNat (m.og-1)))::aB b5 (aK.cells m) 55::aE cM vl::Sl (sm wb) wc 215 1 bD.ptr wl::Sl (sm cb) cc 287 1 bT.cells (cl.set (Int.toNat (m.og-1)) (⟨a3,a4,(((cq cl (m.og-1)).cl)++([((⟨m.bd.vw,m.nr⟩:dY):dY)]))⟩:bT))::L) c0:=aE.put za l6
   have l8:St w0 (aE cF (cl.set (Int.toNat (m.og-1)) (⟨a3,a4,(((cq cl (m.og-1)).cl)++([((⟨m.bd.vw,m.nr⟩:dY):dY)]))⟩:bT))::Sl (sm b3) 1 289 2 dY.cells ([((⟨m.bd.vw,m.nr⟩:dY):dY)])::PS ((wq wl (m.og-1)).b) a7::aB lp (aQ.cells (RF n kn vb vc vl wb wc wl cb cc (cl.set (Int.toNat (m.og-1)) (⟨a3,a4,(((cq cl (m.og-1)).cl)++([((⟨m.bd.vw,m.nr⟩:dY):dY)]))⟩:bT)))) 214::Sl (sm vb) vc 209 4 aT.cells vl::aB a0 (aH.cells m.bd) 53::aE cA (wl.eraseIdx (Int.toNat (m.og-1)))::aB b5 (aK.cells m) 55::aE cM vl::Sl (sm wb) wc 215 1 bD.ptr wl::Sl (sm cb) cc 287 1 bT.cells (cl.set (Int.toNat (m.og-1)) (⟨a3,a4,(((cq cl (m.og-1)).cl)++([((⟨m.bd.vw,m.nr⟩:dY):dY)]))⟩:bT))::L) c0:=(by rw [show aQ.cells (RF n kn vb vc vl wb wc wl cb cc (cl.set (Int.toNat (m.og-1)) (⟨a3,a4,(((cq cl (m.og-1)).cl)++([((⟨m.bd.vw,m.nr⟩:dY):dY)]))⟩:bT)))=aQ.cells (RF n kn vb vc vl wb wc wl cb cc cl) from by simp only [aQ.cells,List.length_set]];exact l7)
   have l9:=l8.pl 2
   have m0:St w0 (cA (⟨(wq wl (m.og-1)).b,a7⟩:bD)::aE cF (cl.set (Int.toNat (m.og-1)) (⟨a3,a4,(((cq cl (m.og-1)).cl)++([((⟨m.bd.vw,m.nr⟩:dY):dY)]))⟩:bT))::Sl (sm b3) 1 289 2 dY.cells ([((⟨m.bd.vw,m.nr⟩:dY):dY)])::aB lp (aQ.cells (RF n kn vb vc vl wb wc wl cb cc (cl.set (Int.toNat (m.og-1)) (⟨a3,a4,(((cq cl (m.og-1)).cl)++([((⟨m.bd.vw,m.nr⟩:dY):dY)]))⟩:bT)))) 214::Sl (sm vb) vc 209 4 aT.cells vl::aB a0 (aH.cells m.bd) 53::aE cA (wl.eraseIdx (Int.toNat (m.og-1)))::aB b5 (aK.cells m) 55::aE cM vl::Sl (sm wb) wc 215 1 bD.ptr wl::Sl (sm cb) cc 287 1 bT.cells (cl.set (Int.toNat (m.og-1)) (⟨a3,a4,(((cq cl (m.og-1)).cl)++([((⟨m.bd.vw,m.nr⟩:dY):dY)]))⟩:bT))::L) c0:=l9
   have m1:=(m0.pl 6).pl 1
   have m2:St w0 (aE cA (wl.set (Int.toNat (m.og-1)) (⟨(wq wl (m.og-1)).b,a7⟩:bD))::aE cF (cl.set (Int.toNat (m.og-1)) (⟨a3,a4,(((cq cl (m.og-1)).cl)++([((⟨m.bd.vw,m.nr⟩:dY):dY)]))⟩:bT))::Sl (sm b3) 1 289 2 dY.cells ([((⟨m.bd.vw,m.nr⟩:dY):dY)])::aB lp (aQ.cells (RF n kn vb vc vl wb wc wl cb cc (cl.set (Int.toNat (m.og-1)) (⟨a3,a4,(((cq cl (m.og-1)).cl)++([((⟨m.bd.vw,m.nr⟩:dY):dY)]))⟩:bT)))) 214::Sl (sm vb) vc 209 4 aT.cells vl::aB a0 (aH.cells m.bd) 53::aB b5 (aK.cells m) 55::aE cM vl::Sl (sm wb) wc 215 1 bD.ptr wl::Sl (sm cb) cc 287 1 bT.cells (cl.set (Int.toNat (m.og-1)) (⟨a3,a4,(((cq cl (m.og-1)).cl)++([((⟨m.bd.vw,m.nr⟩:dY):dY)]))⟩:bT))::L) c0:=aE.put za m1
   have m3:=m2.pl 8
   have m4:St w0 (Sl (sm wb) wc 215 1 bD.ptr (wl.set (Int.toNat (m.og-1)) (⟨(wq wl (m.og-1)).b,a7⟩:bD))::aE cA (wl.set (Int.toNat (m.og-1)) (⟨(wq wl (m.og-1)).b,a7⟩:bD))::aE cF (cl.set (Int.toNat (m.og-1)) (⟨a3,a4,(((cq cl (m.og-1)).cl)++([((⟨m.bd.vw,m.nr⟩:dY):dY)]))⟩:bT))::Sl (sm b3) 1 289 2 dY.cells ([((⟨m.bd.vw,m.nr⟩:dY):dY)])::aB lp (aQ.cells (RF n kn vb vc vl wb wc wl cb cc (cl.set (Int.toNat (m.og-1)) (⟨a3,a4,(((cq cl (m.og-1)).cl)++([((⟨m.bd.vw,m.nr⟩:dY):dY)]))⟩:bT)))) 214::Sl (sm vb) vc 209 4 aT.cells vl::aB a0 (aH.cells m.bd) 53::aB b5 (aK.cells m) 55::aE cM vl::Sl (sm cb) cc 287 1 bT.cells (cl.set (Int.toNat (m.og-1)) (⟨a3,a4,(((cq cl (m.og-1)).cl)++([((⟨m.bd.vw,m.nr⟩:dY):dY)]))⟩:bT))::L) c0:=(by rw [oH _ _ _ za];exact m3)
   have m5:St w0 (Sl (sm wb) wc 215 1 bD.ptr (wl.set (Int.toNat (m.og-1)) (⟨(wq wl (m.og-1)).b,a7⟩:bD))::aE cA (wl.set (Int.toNat (m.og-1)) (⟨(wq wl (m.og-1)).b,a7⟩:bD))::aE cF (cl.set (Int.toNat (m.og-1)) (⟨a3,a4,(((cq cl (m.og-1)).cl)++([((⟨m.bd.vw,m.nr⟩:dY):dY)]))⟩:bT))::Sl (sm b3) 1 289 2 dY.cells ([((⟨m.bd.vw,m.nr⟩:dY):dY)])::aB lp (aQ.cells (RF n kn vb vc vl wb wc (wl.set (Int.toNat (m.og-1)) (⟨(wq wl (m.og-1)).b,a7⟩:bD)) cb cc (cl.set (Int.toNat (m.og-1)) (⟨a3,a4,(((cq cl (m.og-1)).cl)++([((⟨m.bd.vw,m.nr⟩:dY):dY)]))⟩:bT)))) 214::Sl (sm vb) vc 209 4 aT.cells vl::aB a0 (aH.cells m.bd) 53::aB b5 (aK.cells m) 55::aE cM vl::Sl (sm cb) cc 287 1 bT.cells (cl.set (Int.toNat (m.og-1)) (⟨a3,a4,(((cq cl (m.og-1)).cl)++([((⟨m.bd.vw,m.nr⟩:dY):dY)]))⟩:bT))::L) c0:=(by rw [show aQ.cells (RF n kn vb vc vl wb wc (wl.set (Int.toNat (m.og-1)) (⟨(wq wl (m.og-1)).b,a7⟩:bD)) cb cc (cl.set (Int.toNat (m.og-1)) (⟨a3,a4,(((cq cl (m.og-1)).cl)++([((⟨m.bd.vw,m.nr⟩:dY):dY)]))⟩:bT)))=aQ.cells (RF n kn vb vc vl wb wc wl cb cc (cl.set (Int.toNat (m.og-1)) (⟨a3,a4,(((cq cl (m.og-1)).cl)++([((⟨m.bd.vw,m.nr⟩:dY):dY)]))⟩:bT))) from by simp only [aQ.cells,List.length_set]];exact m4)
   have m6:=((((((m5.pl 2).pl 9).pl 3).pl 3).pl 9).pl 7).pl 7
   have m7:St w0 (LS lp (t+1) (RF n kn vb vc vl wb wc (wl.set (Int.toNat (m.og-1)) (⟨(wq wl (m.og-1)).b,a7⟩:bD)) cb cc (cl.set (Int.toNat (m.og-1)) (⟨a3,a4,(((cq cl (m.og-1)).cl)++([((⟨m.bd.vw,m.nr⟩:dY):dY)]))⟩:bT)))::Sl (sm b3) 1 289 2 dY.cells ([((⟨m.bd.vw,m.nr⟩:dY):dY)])::aB a0 (aH.cells m.bd) 53::aB b5 (aK.cells m) 55::L) c0:=Bd.close ((hI.Ri za ⟨hnr.1,by show m.nr<_;omega⟩).IW za j7) m6
   have m8:=(((m7.pl 0).pl 3).pl 3).pl 3
   exact⟨true,RF n kn vb vc vl wb wc (wl.set (Int.toNat (m.og-1)) (⟨(wq wl (m.og-1)).b,a7⟩:bD)) cb cc (cl.set (Int.toNat (m.og-1)) (⟨a3,a4,(((cq cl (m.og-1)).cl)++([((⟨m.bd.vw,m.nr⟩:dY):dY)]))⟩:bT)),rfl,rfl,m8.dr 3⟩
 ·have j4:=lf f5
  refine En (Lq (Dz (eZ (t:=(m.bd.kd:Int) == 4) (λf7=>?_) (λf7=>?_))))
  ·have n0:=kr f7
   refine En (Ls (Lg [4] (Dz (Zr 0 2 [] ?_))))
   rcases Bool.eq_false_or_eq_true ((((a8:Nat)+1):Int) == m.og) with d6|d6
   ·refine nQ 72 true d6 ?_
    have n1:=kr d6
    refine Zj (hP 3 5 0 121 (aK.cells m) b0 Hz) ?_
    have n2:=b0.pl 3
    have n4:St w0 (cA (wq wl (m.og-1))::aB lp (aQ.cells (RF n kn vb vc vl wb wc wl cb cc cl)) 214::Sl (sm vb) vc 209 4 aT.cells vl::aB a0 (aH.cells m.bd) 53::aE cA (wl.eraseIdx (Int.toNat (m.og-1)))::aB b5 (aK.cells m) 55::aE cM vl::Sl (sm wb) wc 215 1 bD.ptr wl::Sl (sm cb) cc 287 1 bT.cells cl::aE cF cl::L) b7:=n2
    have n5:=(n4.pl 4).pl 1
    have n6:St w0 (aE cA wl::aB lp (aQ.cells (RF n kn vb vc vl wb wc wl cb cc cl)) 214::Sl (sm vb) vc 209 4 aT.cells vl::aB a0 (aH.cells m.bd) 53::aB b5 (aK.cells m) 55::aE cM vl::Sl (sm wb) wc 215 1 bD.ptr wl::Sl (sm cb) cc 287 1 bT.cells cl::aE cF cl::L) b7:=aE.jK bM za n5
    have n7:=((((((n6.pl 8).pl 8).pl 2).pl 8).pl 8).pl 6).pl 6
    have n8:St w0 (LS lp t (RF n kn vb vc vl wb wc wl cb cc cl)::aB a0 (aH.cells m.bd) 53::aB b5 (aK.cells m) 55::L) b7:=Bd.close hI n7
    refine Zc (wF t (RF n kn vb vc vl wb wc wl cb cc cl) m hm (i6 za) (show 1+m.bd.vw % n=m.og from by omega) i7 ht zc (λw h=>hr _ (h.drop 2)) n8) ?_
    rintro fm fo ⟨h7,n9,rfl,o0,o1⟩
    refine Lz (Le (Ll (Ly (Dz (bY (v:=.bool h7) ?_)))))
    have o2:=((o1.pl 0).pl 2).pl 2
    exact⟨h7,n9,rfl,o0,o2.dr 2⟩
   ·refine nQ 72 false d6 (En (Lw (qR (En (cI (Lt (Le (Ll (Ly (Dz (bY (v:=.bool false) ?_)))))))))))
    have o4:=b0.pl 3
    have o5:St w0 (cA (wq wl (m.og-1))::aB lp (aQ.cells (RF n kn vb vc vl wb wc wl cb cc cl)) 214::Sl (sm vb) vc 209 4 aT.cells vl::aB a0 (aH.cells m.bd) 53::aE cA (wl.eraseIdx (Int.toNat (m.og-1)))::aB b5 (aK.cells m) 55::aE cM vl::Sl (sm wb) wc 215 1 bD.ptr wl::Sl (sm cb) cc 287 1 bT.cells cl::aE cF cl::L) b7:=o4
    have o6:=(o5.pl 4).pl 1
    have o7:St w0 (aE cA wl::aB lp (aQ.cells (RF n kn vb vc vl wb wc wl cb cc cl)) 214::Sl (sm vb) vc 209 4 aT.cells vl::aB a0 (aH.cells m.bd) 53::aB b5 (aK.cells m) 55::aE cM vl::Sl (sm wb) wc 215 1 bD.ptr wl::Sl (sm cb) cc 287 1 bT.cells cl::aE cF cl::L) b7:=aE.jK bM za o6
    have o8:=((((((o7.pl 8).pl 8).pl 2).pl 8).pl 8).pl 6).pl 6
    have o9:St w0 (LS lp (t+1) (RF n kn vb vc vl wb wc wl cb cc cl)::aB a0 (aH.cells m.bd) 53::aB b5 (aK.cells m) 55::L) b7:=Bd.close hI.mono o8
    have p0:=((o9.pl 0).pl 2).pl 2
    exact⟨false,RF n kn vb vc vl wb wc wl cb cc cl,rfl,rfl,p0.dr 2⟩
  ·have n0:=lf f7
   refine En (Lq (Dz (eZ (t:=(m.bd.kd:Int) == 5) (λf8=>?_) (λf8=>?_))))
   ·have p2:=kr f8
    refine Zs (Zs (ZD (gE [0,1,2,3,4,5,6,7,8,9,10,11,12,13,14,15,16,19] (.ef 17 (gE [18,20,21,22,23] .done))) b0 λf9 c7 fq=>Zr 0 3 [] ?_))
    rcases Bool.eq_false_or_eq_true (decide ((u:Int)<0)) with d7|d7
    ·refine nQ 81 true d7 ?_
     have p3:=of_decide_eq_true d7
     refine En (Lw (qR (En (cI (Lt (LT (Lq (Le (Ly (Ll (Ly (Dz (bY (v:=.bool false) ?_)))))))))))))
     have p4:=c7.pl 3
     have p5:St w0 (cA (wq wl (m.og-1))::aB lp (aQ.cells (RF n kn vb vc vl wb wc wl cb cc cl)) 214::Sl (sm vb) vc 209 4 aT.cells vl::aB a0 (aH.cells m.bd) 53::aE cA (wl.eraseIdx (Int.toNat (m.og-1)))::aB b5 (aK.cells m) 55::aE cM vl::Sl (sm wb) wc 215 1 bD.ptr wl::Sl (sm cb) cc 287 1 bT.cells cl::aE cF cl::L) f9:=p4
     have p6:=(p5.pl 4).pl 1
     have p7:St w0 (aE cA wl::aB lp (aQ.cells (RF n kn vb vc vl wb wc wl cb cc cl)) 214::Sl (sm vb) vc 209 4 aT.cells vl::aB a0 (aH.cells m.bd) 53::aB b5 (aK.cells m) 55::aE cM vl::Sl (sm wb) wc 215 1 bD.ptr wl::Sl (sm cb) cc 287 1 bT.cells cl::aE cF cl::L) f9:=aE.jK bM za p6
     have p8:=((((((p7.pl 8).pl 8).pl 2).pl 8).pl 8).pl 6).pl 6
     have p9:St w0 (LS lp (t+1) (RF n kn vb vc vl wb wc wl cb cc cl)::aB a0 (aH.cells m.bd) 53::aB b5 (aK.cells m) 55::L) f9:=Bd.close hI.mono p8
     have q0:=((p9.pl 0).pl 2).pl 2
     exact⟨false,RF n kn vb vc vl wb wc wl cb cc cl,rfl,rfl,q0.dr 2⟩
    ·refine nQ 81 false d7 ?_
     have p3:=of_decide_eq_false d7
     have hig:=Br.ge f4 za
     have kI:Int.toNat u<vl.length:=za
     have hvs:=hI.hs _ (bJ (d:=aN) kI)
     refine Zj (Hl 6 0 12 c7 (Hx 8 (u:Int) (vl.length:Int) vb 0 4 (Hg 10 (.gen [.int .u64 ((vl.getD (Int.toNat u) aN).nm)]) [.cell ⟨vb,0+((Int.toNat u)*4)+1,none⟩ (.int .u64 ((vl.getD (Int.toNat u) aN).nm))] (bE (aC.cV (c7.rows 1 rfl jJ.size aN) (k:=Int.toNat u) zo (j:=1) zb zk) aR) (Hl 14 0 0 c7 (Hl 16 2 1 c7 Hz))))) (Zc (na n m.bd.vw zc zc c7) ?_)
     rintro fs g0 ⟨c1,rfl,ft,fu,d8⟩
     refine⟨gR (n:=[.cell ⟨vb,0+((Int.toNat u)*4)+1,none⟩ (.int .u64 ((vl.getD (Int.toNat u) aN).nm)),.prop (0 <= (u:Int) /\ (u:Int)<(vl.length:Int)),.prop (Value.pointer (some (Addr.add ⟨vb,0,none⟩ (Int.toNat u*4)))=Value.pointer (some ⟨vb,0+((Int.toNat u)*4),none⟩)),.cell ⟨lp,12,none⟩ (zL vb 0 vl.length vc)]) zk (bE (aC.cV (d8.rows 1 rfl jJ.size aN) (k:=Int.toNat u) zo (j:=1) zb zk) (aJ za (aJ (aU _ _ _) (bE (d8.cell 0 rfl zk) aR)))),kV (Hg 18 (.dH (.int .i64 (c1:Nat)) (.gen [])) [.prop (Value.int .i64 (IntKind.i64.wrap (((c1:Nat)+1)-1))=Value.int .i64 (c1:Nat))] (aJ (ct za za za) aR) (Hx 20 (c1:Int) (11:Int) b5 2 1 (Hg 21 (.gen [.int .u64 (m.dp.toList.getD c1 0)]) [.cell ⟨b5,2+(c1*1),none⟩ (.int .u64 (m.dp.toList.getD c1 0))] (bE (d8.cell 5 rfl (aP.ry (off:=2) (d:=m.dp) zk za)) aR) Hz))) (Zt (Zi (((vl.getD (Int.toNat u) aN).nm:Int)>(m.dp.toList.getD c1 0)) (λr4=>?_) (λr4=>?_)))⟩
     ·refine En (Lq (Le (Ly (Ll (Ly (Dz (bY (v:=.bool false) ?_)))))))
      have r5:=d8.pl 3
      have r6:St w0 (cA (wq wl (m.og-1))::aB lp (aQ.cells (RF n kn vb vc vl wb wc wl cb cc cl)) 214::Sl (sm vb) vc 209 4 aT.cells vl::aB a0 (aH.cells m.bd) 53::aE cA (wl.eraseIdx (Int.toNat (m.og-1)))::aB b5 (aK.cells m) 55::aE cM vl::Sl (sm wb) wc 215 1 bD.ptr wl::Sl (sm cb) cc 287 1 bT.cells cl::aE cF cl::L) g0:=r5
      have r7:=(r6.pl 4).pl 1
      have r8:St w0 (aE cA wl::aB lp (aQ.cells (RF n kn vb vc vl wb wc wl cb cc cl)) 214::Sl (sm vb) vc 209 4 aT.cells vl::aB a0 (aH.cells m.bd) 53::aB b5 (aK.cells m) 55::aE cM vl::Sl (sm wb) wc 215 1 bD.ptr wl::Sl (sm cb) cc 287 1 bT.cells cl::aE cF cl::L) g0:=aE.jK bM za r7
      have r9:=((((((r8.pl 8).pl 8).pl 2).pl 8).pl 8).pl 6).pl 6
      have s0:St w0 (LS lp (t+1) (RF n kn vb vc vl wb wc wl cb cc cl)::aB a0 (aH.cells m.bd) 53::aB b5 (aK.cells m) 55::L) g0:=Bd.close hI.mono r9
      have s1:=((s0.pl 0).pl 2).pl 2
      exact⟨false,RF n kn vb vc vl wb wc wl cb cc cl,rfl,rfl,s1.dr 2⟩
     ·refine Zk (Zt (Zs (ZD (gE [0,1,2,3,4,5,6,7,8,9,10,11] (.ef 12 (.rd 13 .done))) d8 λfv f0 fw=>?_)))
      refine Zj (Hl 2 2 1 f0 (Hl 6 0 12 f0 (Hx 8 (u:Int) (vl.length:Int) vb 0 4 (Hg 10 (.gen [.slice ((vl.getD (Int.toNat u) aN).sa) ((vl.getD (Int.toNat u) aN).sl.length) ((vl.getD (Int.toNat u) aN).sc)]) [.cell ⟨vb,0+((Int.toNat u)*4)+2,none⟩ (.slice ((vl.getD (Int.toNat u) aN).sa) ((vl.getD (Int.toNat u) aN).sl.length) ((vl.getD (Int.toNat u) aN).sc))] (bE (aC.cV (f0.rows 1 rfl jJ.size aN) (k:=Int.toNat u) zo (j:=2) zb zk) aR) Hz)))) (Zc (qe ((wq wl (m.og-1)).x) m.bd.vw ((vl.getD (Int.toNat u) aN).sl.length:Nat) zc (by have:=hpo.1;unfold wq;omega) (f0.pl 3)) ?_)
      rintro fx c2 (⟨rfl,s4⟩|⟨b4,rfl,s5,s7,s8⟩)
      ·refine Lz (Le (Ll (Ly (Dz (bY (v:=.bool false) ?_)))))
       have t0:St w0 (cA (wq wl (m.og-1))::aB lp (aQ.cells (RF n kn vb vc vl wb wc wl cb cc cl)) 214::Sl (sm vb) vc 209 4 aT.cells vl::aB a0 (aH.cells m.bd) 53::aE cA (wl.eraseIdx (Int.toNat (m.og-1)))::aB b5 (aK.cells m) 55::aE cM vl::Sl (sm wb) wc 215 1 bD.ptr wl::Sl (sm cb) cc 287 1 bT.cells cl::aE cF cl::L) c2:=s4
       have t1:=(t0.pl 4).pl 1
       have t2:St w0 (aE cA wl::aB lp (aQ.cells (RF n kn vb vc vl wb wc wl cb cc cl)) 214::Sl (sm vb) vc 209 4 aT.cells vl::aB a0 (aH.cells m.bd) 53::aB b5 (aK.cells m) 55::aE cM vl::Sl (sm wb) wc 215 1 bD.ptr wl::Sl (sm cb) cc 287 1 bT.cells cl::aE cF cl::L) c2:=aE.jK bM za t1
       have t3:=((((((t2.pl 8).pl 8).pl 2).pl 8).pl 8).pl 6).pl 6
       have t4:St w0 (LS lp (t+1) (RF n kn vb vc vl wb wc wl cb cc cl)::aB a0 (aH.cells m.bd) 53::aB b5 (aK.cells m) 55::L) c2:=Bd.close hI.mono t3
       have t5:=((t4.pl 0).pl 2).pl 2
       exact⟨false,RF n kn vb vc vl wb wc wl cb cc cl,rfl,rfl,t5.dr 2⟩
      ·refine Lz (Le (Ll (Ly (Dz (bY (v:=.bool true) ?_)))))
       have t7:St w0 (cA (⟨(wq wl (m.og-1)).b,b4⟩:bD)::aB lp (aQ.cells (RF n kn vb vc vl wb wc wl cb cc cl)) 214::Sl (sm vb) vc 209 4 aT.cells vl::aB a0 (aH.cells m.bd) 53::aE cA (wl.eraseIdx (Int.toNat (m.og-1)))::aB b5 (aK.cells m) 55::aE cM vl::Sl (sm wb) wc 215 1 bD.ptr wl::Sl (sm cb) cc 287 1 bT.cells cl::aE cF cl::L) c2:=s8
       have t8:=(t7.pl 4).pl 1
       have t9:St w0 (aE cA (wl.set (Int.toNat (m.og-1)) (⟨(wq wl (m.og-1)).b,b4⟩:bD))::aB lp (aQ.cells (RF n kn vb vc vl wb wc wl cb cc cl)) 214::Sl (sm vb) vc 209 4 aT.cells vl::aB a0 (aH.cells m.bd) 53::aB b5 (aK.cells m) 55::aE cM vl::Sl (sm wb) wc 215 1 bD.ptr wl::Sl (sm cb) cc 287 1 bT.cells cl::aE cF cl::L) c2:=aE.put za t8
       have u0:=t9.pl 6
       have u1:St w0 (Sl (sm wb) wc 215 1 bD.ptr (wl.set (Int.toNat (m.og-1)) (⟨(wq wl (m.og-1)).b,b4⟩:bD))::aE cA (wl.set (Int.toNat (m.og-1)) (⟨(wq wl (m.og-1)).b,b4⟩:bD))::aB lp (aQ.cells (RF n kn vb vc vl wb wc wl cb cc cl)) 214::Sl (sm vb) vc 209 4 aT.cells vl::aB a0 (aH.cells m.bd) 53::aB b5 (aK.cells m) 55::aE cM vl::Sl (sm cb) cc 287 1 bT.cells cl::aE cF cl::L) c2:=(by rw [oH _ _ _ za];exact u0)
       have u2:St w0 (Sl (sm wb) wc 215 1 bD.ptr (wl.set (Int.toNat (m.og-1)) (⟨(wq wl (m.og-1)).b,b4⟩:bD))::aE cA (wl.set (Int.toNat (m.og-1)) (⟨(wq wl (m.og-1)).b,b4⟩:bD))::aB lp (aQ.cells (RF n kn vb vc vl wb wc (wl.set (Int.toNat (m.og-1)) (⟨(wq wl (m.og-1)).b,b4⟩:bD)) cb cc cl)) 214::Sl (sm vb) vc 209 4 aT.cells vl::aB a0 (aH.cells m.bd) 53::aB b5 (aK.cells m) 55::aE cM vl::Sl (sm cb) cc 287 1 bT.cells cl::aE cF cl::L) c2:=(by rw [show aQ.cells (RF n kn vb vc vl wb wc (wl.set (Int.toNat (m.og-1)) (⟨(wq wl (m.og-1)).b,b4⟩:bD)) cb cc cl)=aQ.cells (RF n kn vb vc vl wb wc wl cb cc cl) from by simp only [aQ.cells,List.length_set]];exact u1)
       have u3:=((((((u2.pl 8).pl 8).pl 3).pl 3).pl 8).pl 6).pl 6
       have u4:St w0 (LS lp (t+1) (RF n kn vb vc vl wb wc (wl.set (Int.toNat (m.og-1)) (⟨(wq wl (m.og-1)).b,b4⟩:bD)) cb cc cl)::aB a0 (aH.cells m.bd) 53::aB b5 (aK.cells m) 55::L) c2:=Bd.close (hI.F5 za s5 ⟨vl.getD (Int.toNat u) aN,bJ kI,hig.2,za,za⟩ s7) u3
       have u5:=((u4.pl 0).pl 2).pl 2
       exact⟨true,RF n kn vb vc vl wb wc (wl.set (Int.toNat (m.og-1)) (⟨(wq wl (m.og-1)).b,b4⟩:bD)) cb cc cl,rfl,rfl,u5.dr 2⟩
   ·have p2:=lf f8
    refine En (Lq (Dz (eZ (t:=(m.bd.kd:Int) == 1) (λg5=>?_) (λg5=>?_))))
    ·have u7:=kr g5
     refine Zs (Zs (ZD (gE [0,1,2,3,4,5,6,7,8] (.ef 9 (gE [10,11,12,13,14,15,16,17,18,19,21,22,23,24,25,26] (.ef 20 (.ef 27 (gE [28,29,30,31,32] (.ef 33 (gE [34,35] .done)))))))) b0 λc9 f1 fy=>Zr 0 3 [] ?_))
     rcases Bool.eq_false_or_eq_true (!((((a8:Nat)+1):Int) == m.og)) with d9|d9
     ·refine nQ 120 true d9 ?_
      have g9:=sA d9
      refine En (Lw (qR (En (Lw (qR (qR (En (Lw (qR (En (cI (Lt (LT (Lq (Le (Ly (Ll (Ly (Dz (bY (v:=.bool false) ?_))))))))))))))))))))
      have u8:=f1.pl 3
      have u9:St w0 (cA (wq wl (m.og-1))::aB lp (aQ.cells (RF n kn vb vc vl wb wc wl cb cc cl)) 214::Sl (sm vb) vc 209 4 aT.cells vl::aB a0 (aH.cells m.bd) 53::aE cA (wl.eraseIdx (Int.toNat (m.og-1)))::aB b5 (aK.cells m) 55::aE cM vl::Sl (sm wb) wc 215 1 bD.ptr wl::Sl (sm cb) cc 287 1 bT.cells cl::aE cF cl::L) c9:=u8
      have v0:=(u9.pl 4).pl 1
      have v1:St w0 (aE cA wl::aB lp (aQ.cells (RF n kn vb vc vl wb wc wl cb cc cl)) 214::Sl (sm vb) vc 209 4 aT.cells vl::aB a0 (aH.cells m.bd) 53::aB b5 (aK.cells m) 55::aE cM vl::Sl (sm wb) wc 215 1 bD.ptr wl::Sl (sm cb) cc 287 1 bT.cells cl::aE cF cl::L) c9:=aE.jK bM za v0
      have v2:=((((((v1.pl 8).pl 8).pl 2).pl 8).pl 8).pl 6).pl 6
      have v3:St w0 (LS lp (t+1) (RF n kn vb vc vl wb wc wl cb cc cl)::aB a0 (aH.cells m.bd) 53::aB b5 (aK.cells m) 55::L) c9:=Bd.close hI.mono v2
      have v4:=((v3.pl 0).pl 2).pl 2
      exact⟨false,RF n kn vb vc vl wb wc wl cb cc cl,rfl,rfl,v4.dr 2⟩
     ·refine nQ 120 false d9 ?_
      have g9:=pK d9
      have h166n':=kr g9
      refine Zr 3 4 [] ?_
      rcases Bool.eq_false_or_eq_true (decide ((u:Int)<0)) with e0|e0
      ·refine nQ 124 true e0 ?_
       have v6:=of_decide_eq_true e0
       refine En (Lw (qR (En (Lw (qR (qR (En (Lw (qR (En (cI (Lt (LT (Lq (Le (Ly (Ll (Ly (Dz (bY (v:=.bool false) ?_))))))))))))))))))))
       have v7:=f1.pl 3
       have v8:St w0 (cA (wq wl (m.og-1))::aB lp (aQ.cells (RF n kn vb vc vl wb wc wl cb cc cl)) 214::Sl (sm vb) vc 209 4 aT.cells vl::aB a0 (aH.cells m.bd) 53::aE cA (wl.eraseIdx (Int.toNat (m.og-1)))::aB b5 (aK.cells m) 55::aE cM vl::Sl (sm wb) wc 215 1 bD.ptr wl::Sl (sm cb) cc 287 1 bT.cells cl::aE cF cl::L) c9:=v7
       have v9:=(v8.pl 4).pl 1
       have w1:St w0 (aE cA wl::aB lp (aQ.cells (RF n kn vb vc vl wb wc wl cb cc cl)) 214::Sl (sm vb) vc 209 4 aT.cells vl::aB a0 (aH.cells m.bd) 53::aB b5 (aK.cells m) 55::aE cM vl::Sl (sm wb) wc 215 1 bD.ptr wl::Sl (sm cb) cc 287 1 bT.cells cl::aE cF cl::L) c9:=aE.jK bM za v9
       have w2:=((((((w1.pl 8).pl 8).pl 2).pl 8).pl 8).pl 6).pl 6
       have w3:St w0 (LS lp (t+1) (RF n kn vb vc vl wb wc wl cb cc cl)::aB a0 (aH.cells m.bd) 53::aB b5 (aK.cells m) 55::L) c9:=Bd.close hI.mono w2
       have w4:=((w3.pl 0).pl 2).pl 2
       exact⟨false,RF n kn vb vc vl wb wc wl cb cc cl,rfl,rfl,w4.dr 2⟩
      ·refine nQ 124 false e0 ?_
       have v6:=of_decide_eq_false e0
       have hig:=Br.ge f4 za
       have kI:Int.toNat u<vl.length:=za
       have hvs:=hI.hs _ (bJ (d:=aN) kI)
       refine Zj (hP 8 2 3 40 (bC.cells m.bd.rq) f1 Hz) (Zc (F0 m.bd.rq hm.bd.rq f1) ?_)
       rintro fz e1 ⟨h1,rfl,d1⟩
       refine Lo (Dz (Zr 10 3 [] ?_))
       rcases Bool.eq_false_or_eq_true (!h1) with e2|e2
       ·refine nQ 130 true e2 ?_
        have w7:=sA e2
        refine En (Lw (qR (qR (En (Lw (qR (En (cI (Lt (LT (Lq (Le (Ly (Ll (Ly (Dz (bY (v:=.bool false) ?_)))))))))))))))))
        have w9:=d1.pl 3
        have x0:St w0 (cA (wq wl (m.og-1))::aB lp (aQ.cells (RF n kn vb vc vl wb wc wl cb cc cl)) 214::Sl (sm vb) vc 209 4 aT.cells vl::aB a0 (aH.cells m.bd) 53::aE cA (wl.eraseIdx (Int.toNat (m.og-1)))::aB b5 (aK.cells m) 55::aE cM vl::Sl (sm wb) wc 215 1 bD.ptr wl::Sl (sm cb) cc 287 1 bT.cells cl::aE cF cl::L) e1:=w9
        have x1:=(x0.pl 4).pl 1
        have x2:St w0 (aE cA wl::aB lp (aQ.cells (RF n kn vb vc vl wb wc wl cb cc cl)) 214::Sl (sm vb) vc 209 4 aT.cells vl::aB a0 (aH.cells m.bd) 53::aB b5 (aK.cells m) 55::aE cM vl::Sl (sm wb) wc 215 1 bD.ptr wl::Sl (sm cb) cc 287 1 bT.cells cl::aE cF cl::L) e1:=aE.jK bM za x1
        have x3:=((((((x2.pl 8).pl 8).pl 2).pl 8).pl 8).pl 6).pl 6
        have x4:St w0 (LS lp (t+1) (RF n kn vb vc vl wb wc wl cb cc cl)::aB a0 (aH.cells m.bd) 53::aB b5 (aK.cells m) 55::L) e1:=Bd.close hI.mono x3
        have x5:=((x4.pl 0).pl 2).pl 2
        exact⟨false,RF n kn vb vc vl wb wc wl cb cc cl,rfl,rfl,x5.dr 2⟩
       ·refine nQ 130 false e2 ?_
        have w7:=pK e2
        refine Zj (Hl 16 0 12 d1 (Hx 18 (u:Int) (vl.length:Int) vb 0 4 (Hg 19 (.agg (aT.cells (vl.getD (Int.toNat u) aN))) [.prop (Array.size (aT.cells (vl.getD (Int.toNat u) aN))=4),.cells ⟨vb,0+((Int.toNat u)*4),none⟩ (aT.cells (vl.getD (Int.toNat u) aN))] (aJ zk (iN (aC.mj (d1.rows 1 rfl jJ.size aN) (k:=Int.toNat u) zo (Nat.le_of_ble_eq_true zk) zk) aR)) (Hl 23 2 3 d1 (Hl 26 2 4 d1 Hz))))) ?_
        have x7:=d1.pl 6
        have x8:St w0 (cM (vl.getD (Int.toNat u) aN)::aE cM (vl.eraseIdx (Int.toNat u))::aB lp (aQ.cells (RF n kn vb vc vl wb wc wl cb cc cl)) 214::Sl (sm vb) vc 209 4 aT.cells vl::aB a0 (aH.cells m.bd) 53::PS ((wq wl (m.og-1)).b) ((wq wl (m.og-1)).x)::aE cA (wl.eraseIdx (Int.toNat (m.og-1)))::aB b5 (aK.cells m) 55::Sl (sm wb) wc 215 1 bD.ptr wl::Sl (sm cb) cc 287 1 bT.cells cl::aE cF cl::L) e1:=aE.take aN za x7
        obtain⟨_,x9⟩:=Bd.open x8
        have h8:St w0 (Sl ((vl.getD (Int.toNat u) aN).sa) ((vl.getD (Int.toNat u) aN).sc) 41 40 bC.cells ((vl.getD (Int.toNat u) aN).sl)::Sl ((vl.getD (Int.toNat u) aN).pa) ((vl.getD (Int.toNat u) aN).pc) 296 41 dT.cells ((vl.getD (Int.toNat u) aN).pl)::aE cM (vl.eraseIdx (Int.toNat u))::aB lp (aQ.cells (RF n kn vb vc vl wb wc wl cb cc cl)) 214::Sl (sm vb) vc 209 4 aT.cells vl::aB a0 (aH.cells m.bd) 53::PS ((wq wl (m.og-1)).b) ((wq wl (m.og-1)).x)::aE cA (wl.eraseIdx (Int.toNat (m.og-1)))::aB b5 (aK.cells m) 55::Sl (sm wb) wc 215 1 bD.ptr wl::Sl (sm cb) cc 287 1 bT.cells cl::aE cF cl::L) e1:=x9
        have ga:=oI (vl.getD (Int.toNat u) aN) (vl.getD (Int.toNat u) aN).pl.length (Nat.le_refl _)
        refine Zc (uo (vl.getD (Int.toNat u) aN) zc (h8.hZ 0 rfl) (λw h=>h.rows 0 rfl CR.size _) (λw h=>h.rows 1 rfl IV.size _) h8) ?_
        rintro gb gc ⟨a5,a6,rfl,h9⟩
        refine⟨Mv h9 6 rfl [4,3],dJ (f:=165) (args:=#[.slice a5 ((eP (vl.getD (Int.toNat u) aN) (vl.getD (Int.toNat u) aN).pl.length).length) a6,.int .i64 m.bd.rq.cl,.int .u64 m.bd.rq.tm]) Tryz.call165 (yq (eP (vl.getD (Int.toNat u) aN) (vl.getD (Int.toNat u) aN).pl.length) m.bd.rq.cl m.bd.rq.tm zc (λw h=>h.rows 0 rfl CR.size _) h9) ?_⟩
        rintro gd e3 ⟨y0,rfl,h2⟩
        refine Lo (Dz (Zr 28 2 [] (iy 147 y0 (λy1=>?_) (λy1=>?_))))
        ·refine En (Lw (qR (En (cI (Lt (LT (Lq (Le (Ly (Ll (Ly (Dz (bY (v:=.bool false) ?_)))))))))))))
         have y3:=(h2.pl 2).pl 2
         have y4:St w0 (cM (vl.getD (Int.toNat u) aN)::Sl a5 a6 41 40 bC.cells (eP (vl.getD (Int.toNat u) aN) (vl.getD (Int.toNat u) aN).pl.length)::aE cM (vl.eraseIdx (Int.toNat u))::aB lp (aQ.cells (RF n kn vb vc vl wb wc wl cb cc cl)) 214::Sl (sm vb) vc 209 4 aT.cells vl::aB a0 (aH.cells m.bd) 53::PS ((wq wl (m.og-1)).b) ((wq wl (m.og-1)).x)::aE cA (wl.eraseIdx (Int.toNat (m.og-1)))::aB b5 (aK.cells m) 55::Sl (sm wb) wc 215 1 bD.ptr wl::Sl (sm cb) cc 287 1 bT.cells cl::aE cF cl::L) e3:=Bd.close trivial y3
         have y5:=(y4.pl 2).pl 1
         have y6:St w0 (aE cM vl::Sl a5 a6 41 40 bC.cells (eP (vl.getD (Int.toNat u) aN) (vl.getD (Int.toNat u) aN).pl.length)::aB lp (aQ.cells (RF n kn vb vc vl wb wc wl cb cc cl)) 214::Sl (sm vb) vc 209 4 aT.cells vl::aB a0 (aH.cells m.bd) 53::PS ((wq wl (m.og-1)).b) ((wq wl (m.og-1)).x)::aE cA (wl.eraseIdx (Int.toNat (m.og-1)))::aB b5 (aK.cells m) 55::Sl (sm wb) wc 215 1 bD.ptr wl::Sl (sm cb) cc 287 1 bT.cells cl::aE cF cl::L) e3:=aE.jK aN za y5
         have y7:=y6.pl 5
         have y8:St w0 (cA (wq wl (m.og-1))::aE cM vl::Sl a5 a6 41 40 bC.cells (eP (vl.getD (Int.toNat u) aN) (vl.getD (Int.toNat u) aN).pl.length)::aB lp (aQ.cells (RF n kn vb vc vl wb wc wl cb cc cl)) 214::Sl (sm vb) vc 209 4 aT.cells vl::aB a0 (aH.cells m.bd) 53::aE cA (wl.eraseIdx (Int.toNat (m.og-1)))::aB b5 (aK.cells m) 55::Sl (sm wb) wc 215 1 bD.ptr wl::Sl (sm cb) cc 287 1 bT.cells cl::aE cF cl::L) e3:=y7
         have y9:=(y8.pl 6).pl 1
         have z0:St w0 (aE cA wl::aE cM vl::Sl a5 a6 41 40 bC.cells (eP (vl.getD (Int.toNat u) aN) (vl.getD (Int.toNat u) aN).pl.length)::aB lp (aQ.cells (RF n kn vb vc vl wb wc wl cb cc cl)) 214::Sl (sm vb) vc 209 4 aT.cells vl::aB a0 (aH.cells m.bd) 53::aB b5 (aK.cells m) 55::Sl (sm wb) wc 215 1 bD.ptr wl::Sl (sm cb) cc 287 1 bT.cells cl::aE cF cl::L) e3:=aE.jK bM za y9
         have z1:=((((((z0.pl 9).pl 9).pl 2).pl 9).pl 4).pl 7).pl 7
         have z2:St w0 (LS lp (t+1) (RF n kn vb vc vl wb wc wl cb cc cl)::Sl a5 a6 41 40 bC.cells (eP (vl.getD (Int.toNat u) aN) (vl.getD (Int.toNat u) aN).pl.length)::aB a0 (aH.cells m.bd) 53::aB b5 (aK.cells m) 55::L) e3:=Bd.close hI.mono z1
         have z3:=(((z2.pl 0).pl 3).pl 3).pl 3
         exact⟨false,RF n kn vb vc vl wb wc wl cb cc cl,rfl,rfl,z3.dr 3⟩
        ·refine Zj (Hl 32 6 1 h2 Hz) (Zc (uQ ((wq wl (m.og-1)).x) m.bd.vw zc (λy hy=>by have:=(hpo.2 y hy).lt hI.hs;omega) (h2.pl 7)) ?_)
         rintro gf e4 (⟨rfl,z6⟩|⟨a9,rfl,z7,z9,i0,ab⟩)
         ·refine Lz (LT (Lq (Le (Ly (Ll (Ly (Dz (bY (v:=.bool false) ?_))))))))
          have ae:=(z6.pl 3).pl 3
          have af:St w0 (cM (vl.getD (Int.toNat u) aN)::PS ((wq wl (m.og-1)).b) ((wq wl (m.og-1)).x)::Sl a5 a6 41 40 bC.cells (eP (vl.getD (Int.toNat u) aN) (vl.getD (Int.toNat u) aN).pl.length)::aE cM (vl.eraseIdx (Int.toNat u))::aB lp (aQ.cells (RF n kn vb vc vl wb wc wl cb cc cl)) 214::Sl (sm vb) vc 209 4 aT.cells vl::aB a0 (aH.cells m.bd) 53::aE cA (wl.eraseIdx (Int.toNat (m.og-1)))::aB b5 (aK.cells m) 55::Sl (sm wb) wc 215 1 bD.ptr wl::Sl (sm cb) cc 287 1 bT.cells cl::aE cF cl::L) e4:=Bd.close trivial ae
          have ag:=(af.pl 3).pl 1
          have ah:St w0 (aE cM vl::PS ((wq wl (m.og-1)).b) ((wq wl (m.og-1)).x)::Sl a5 a6 41 40 bC.cells (eP (vl.getD (Int.toNat u) aN) (vl.getD (Int.toNat u) aN).pl.length)::aB lp (aQ.cells (RF n kn vb vc vl wb wc wl cb cc cl)) 214::Sl (sm vb) vc 209 4 aT.cells vl::aB a0 (aH.cells m.bd) 53::aE cA (wl.eraseIdx (Int.toNat (m.og-1)))::aB b5 (aK.cells m) 55::Sl (sm wb) wc 215 1 bD.ptr wl::Sl (sm cb) cc 287 1 bT.cells cl::aE cF cl::L) e4:=aE.jK aN za ag
          have ai:=ah.pl 1
          have aj:St w0 (cA (wq wl (m.og-1))::aE cM vl::Sl a5 a6 41 40 bC.cells (eP (vl.getD (Int.toNat u) aN) (vl.getD (Int.toNat u) aN).pl.length)::aB lp (aQ.cells (RF n kn vb vc vl wb wc wl cb cc cl)) 214::Sl (sm vb) vc 209 4 aT.cells vl::aB a0 (aH.cells m.bd) 53::aE cA (wl.eraseIdx (Int.toNat (m.og-1)))::aB b5 (aK.cells m) 55::Sl (sm wb) wc 215 1 bD.ptr wl::Sl (sm cb) cc 287 1 bT.cells cl::aE cF cl::L) e4:=ai
          have an:=(aj.pl 6).pl 1
          have ao:St w0 (aE cA wl::aE cM vl::Sl a5 a6 41 40 bC.cells (eP (vl.getD (Int.toNat u) aN) (vl.getD (Int.toNat u) aN).pl.length)::aB lp (aQ.cells (RF n kn vb vc vl wb wc wl cb cc cl)) 214::Sl (sm vb) vc 209 4 aT.cells vl::aB a0 (aH.cells m.bd) 53::aB b5 (aK.cells m) 55::Sl (sm wb) wc 215 1 bD.ptr wl::Sl (sm cb) cc 287 1 bT.cells cl::aE cF cl::L) e4:=aE.jK bM za an
          have aq:=((((((ao.pl 9).pl 9).pl 2).pl 9).pl 4).pl 7).pl 7
          have ar:St w0 (LS lp (t+1) (RF n kn vb vc vl wb wc wl cb cc cl)::Sl a5 a6 41 40 bC.cells (eP (vl.getD (Int.toNat u) aN) (vl.getD (Int.toNat u) aN).pl.length)::aB a0 (aH.cells m.bd) 53::aB b5 (aK.cells m) 55::L) e4:=Bd.close hI.mono aq
          have au:=(((ar.pl 0).pl 3).pl 3).pl 3
          exact⟨false,RF n kn vb vc vl wb wc wl cb cc cl,rfl,rfl,au.dr 3⟩
         ·refine Lz (LF (Lk (Lt (Ls (Dz (ZD (gE [0,1,2,3,4,5,6,7,8,9,10,11,12,13,14,15,16,17] (.ef 18 (.ef 19 (gE [20,21] (.ef 22 .done))))) ab λgh d2 gi=>?_))))))
          refine Zj (Hl 3 5 12 d2 (Hl 8 5 12 d2 (Hx 10 (u:Int) (vl.length:Int) vb 0 4 (Hg 12 (.gen [.slice ((vl.getD (Int.toNat u) aN).pa) ((vl.getD (Int.toNat u) aN).pl.length) ((vl.getD (Int.toNat u) aN).pc)]) [.cell ⟨vb,0+((Int.toNat u)*4)+3,none⟩ (.slice ((vl.getD (Int.toNat u) aN).pa) ((vl.getD (Int.toNat u) aN).pl.length) ((vl.getD (Int.toNat u) aN).pc))] (bE (aC.cV (d2.rows 6 rfl jJ.size aN) (k:=Int.toNat u) zo (j:=3) zb zk) aR) (Hl 14 9 1 d2 (hP 16 7 3 40 (bC.cells m.bd.rq) d2 Hz)))))) (aL.bU rfl zk (t:=207) (e:=296) (n:=1) (ps:=[(0,.agg (dT.cells (⟨m.nr,m.bd.rq⟩:dT)))]) zk zk (ti:=Tryz.t296) (z:=.agg (dT.cells lN)) zk zk zb zb (cs:=dT.cells (⟨m.nr,m.bd.rq⟩:dT)) zk d2 λb6 aw ax ay=>?_)
          have f2:St w0 (Sl (sm b6) 1 296 41 dT.cells ([((⟨m.nr,m.bd.rq⟩:dT):dT)])::PS ((wq wl (m.og-1)).b) a9::Sl a5 a6 41 40 bC.cells (eP (vl.getD (Int.toNat u) aN) (vl.getD (Int.toNat u) aN).pl.length)::Sl ((vl.getD (Int.toNat u) aN).sa) ((vl.getD (Int.toNat u) aN).sc) 41 40 bC.cells ((vl.getD (Int.toNat u) aN).sl)::Sl ((vl.getD (Int.toNat u) aN).pa) ((vl.getD (Int.toNat u) aN).pc) 296 41 dT.cells ((vl.getD (Int.toNat u) aN).pl)::aE cM (vl.eraseIdx (Int.toNat u))::aB lp (aQ.cells (RF n kn vb vc vl wb wc wl cb cc cl)) 214::Sl (sm vb) vc 209 4 aT.cells vl::aB a0 (aH.cells m.bd) 53::aE cA (wl.eraseIdx (Int.toNat (m.og-1)))::aB b5 (aK.cells m) 55::Sl (sm wb) wc 215 1 bD.ptr wl::Sl (sm cb) cc 287 1 bT.cells cl::aE cF cl::L) aw:=St.iw (l:=[((⟨m.nr,m.bd.rq⟩:dT):dT)]) (f:=dT.cells) ax ay IV.size zf zk
          refine⟨gR (n:=[.cell ⟨vb,0+((Int.toNat u)*4)+3,none⟩ (.slice ((vl.getD (Int.toNat u) aN).pa) ((vl.getD (Int.toNat u) aN).pl.length) ((vl.getD (Int.toNat u) aN).pc)),.prop (0 <= (u:Int) /\ (u:Int)<(vl.length:Int)),.prop (Value.pointer (some (Addr.add ⟨vb,0,none⟩ (Int.toNat u*4)))=Value.pointer (some ⟨vb,0+((Int.toNat u)*4),none⟩)),.cell ⟨lp,12,none⟩ (zL vb 0 vl.length vc),.cell ⟨lp,12,none⟩ (zL vb 0 vl.length vc)]) zk (bE (aC.cV (f2.rows 7 rfl jJ.size aN) (k:=Int.toNat u) zo (j:=3) zb zk) (aJ za (aJ (aU _ _ _) (bE (f2.cell 6 rfl zk) (bE (f2.cell 6 rfl zk) aR))))),(sD OY IV lN (f2.pl 4) (by simp only [List.length_cons,List.length_nil];first|omega|(have:=(hI.hg _ (bJ (d:=cE) (show Int.toNat (m.og-1)<cl.length by omega))).1;unfold cq;omega)) λa1 a2 gj i1=>⟨Mv i1 6 rfl [12],?_⟩)⟩
          refine Zj (Hx 20 (u:Int) (vl.length:Int) vb 0 4 Hz) (aL.kO rfl rfl zk (b:=vb) (off:=0+((Int.toNat u)*4)+3) (v:=.slice a1 ((((vl.getD (Int.toNat u) aN).pl)++([((⟨m.nr,m.bd.rq⟩:dT):dT)])).length) a2) zk zk (ti:=Tryz.t207) zk i1 7 jJ.size rfl zk zk (by rw [Nat.zero_add];exact gI (f:=aT.cells) (size:=4) (l:=vl) (k:=Int.toNat u) (o:=3) (n:=1) jJ.size zo zb) (List.length_set ..) (xs':=vl.set (Int.toNat u) (RI (vl.getD (Int.toNat u) aN) a1 a2 (((vl.getD (Int.toNat u) aN).pl)++([((⟨m.nr,m.bd.rq⟩:dT):dT)])))) (by rw [Nat.zero_add];exact eN (f:=aT.cells) (size:=4) (l:=vl) (k:=Int.toNat u) (o:=3) jJ.size zo aN (RI (vl.getD (Int.toNat u) aN) a1 a2 (((vl.getD (Int.toNat u) aN).pl)++([((⟨m.nr,m.bd.rq⟩:dT):dT)]))) (Nat.le_of_ble_eq_true rfl) zk) (L':=(Sl a1 a2 296 41 dT.cells (((vl.getD (Int.toNat u) aN).pl)++([((⟨m.nr,m.bd.rq⟩:dT):dT)])))::Sl (sm b6) 1 296 41 dT.cells ([((⟨m.nr,m.bd.rq⟩:dT):dT)])::PS ((wq wl (m.og-1)).b) a9::Sl a5 a6 41 40 bC.cells (eP (vl.getD (Int.toNat u) aN) (vl.getD (Int.toNat u) aN).pl.length)::Sl ((vl.getD (Int.toNat u) aN).sa) ((vl.getD (Int.toNat u) aN).sc) 41 40 bC.cells ((vl.getD (Int.toNat u) aN).sl)::aE cM (vl.eraseIdx (Int.toNat u))::aB lp (aQ.cells (RF n kn vb vc vl wb wc wl cb cc cl)) 214::Sl (sm vb) vc 209 4 aT.cells (vl.set (Int.toNat u) (RI (vl.getD (Int.toNat u) aN) a1 a2 (((vl.getD (Int.toNat u) aN).pl)++([((⟨m.nr,m.bd.rq⟩:dT):dT)]))))::aB a0 (aH.cells m.bd) 53::aE cA (wl.eraseIdx (Int.toNat (m.og-1)))::aB b5 (aK.cells m) 55::Sl (sm wb) wc 215 1 bD.ptr wl::Sl (sm cb) cc 287 1 bT.cells cl::aE cF cl::L) rfl λc3 ba=>Lo (Ld (Lt (Lq (Le (Ll (Ly (Dz (bY (v:=.bool true) ?_)))))))))
          have bb:=(ba.pl 0).pl 4
          have bc:St w0 (cM (RI (vl.getD (Int.toNat u) aN) a1 a2 (((vl.getD (Int.toNat u) aN).pl)++([((⟨m.nr,m.bd.rq⟩:dT):dT)])))::Sl (sm b6) 1 296 41 dT.cells ([((⟨m.nr,m.bd.rq⟩:dT):dT)])::PS ((wq wl (m.og-1)).b) a9::Sl a5 a6 41 40 bC.cells (eP (vl.getD (Int.toNat u) aN) (vl.getD (Int.toNat u) aN).pl.length)::aE cM (vl.eraseIdx (Int.toNat u))::aB lp (aQ.cells (RF n kn vb vc vl wb wc wl cb cc cl)) 214::Sl (sm vb) vc 209 4 aT.cells (vl.set (Int.toNat u) (RI (vl.getD (Int.toNat u) aN) a1 a2 (((vl.getD (Int.toNat u) aN).pl)++([((⟨m.nr,m.bd.rq⟩:dT):dT)]))))::aB a0 (aH.cells m.bd) 53::aE cA (wl.eraseIdx (Int.toNat (m.og-1)))::aB b5 (aK.cells m) 55::Sl (sm wb) wc 215 1 bD.ptr wl::Sl (sm cb) cc 287 1 bT.cells cl::aE cF cl::L) c3:=Bd.close trivial bb
          have be:=(bc.pl 4).pl 1
          have bf:St w0 (aE cM (vl.set (Int.toNat u) (RI (vl.getD (Int.toNat u) aN) a1 a2 (((vl.getD (Int.toNat u) aN).pl)++([((⟨m.nr,m.bd.rq⟩:dT):dT)]))))::Sl (sm b6) 1 296 41 dT.cells ([((⟨m.nr,m.bd.rq⟩:dT):dT)])::PS ((wq wl (m.og-1)).b) a9::Sl a5 a6 41 40 bC.cells (eP (vl.getD (Int.toNat u) aN) (vl.getD (Int.toNat u) aN).pl.length)::aB lp (aQ.cells (RF n kn vb vc vl wb wc wl cb cc cl)) 214::Sl (sm vb) vc 209 4 aT.cells (vl.set (Int.toNat u) (RI (vl.getD (Int.toNat u) aN) a1 a2 (((vl.getD (Int.toNat u) aN).pl)++([((⟨m.nr,m.bd.rq⟩:dT):dT)]))))::aB a0 (aH.cells m.bd) 53::aE cA (wl.eraseIdx (Int.toNat (m.og-1)))::aB b5 (aK.cells m) 55::Sl (sm wb) wc 215 1 bD.ptr wl::Sl (sm cb) cc 287 1 bT.cells cl::aE cF cl::L) c3:=aE.put za be
          have bg:St w0 (aE cM (vl.set (Int.toNat u) (RI (vl.getD (Int.toNat u) aN) a1 a2 (((vl.getD (Int.toNat u) aN).pl)++([((⟨m.nr,m.bd.rq⟩:dT):dT)]))))::Sl (sm b6) 1 296 41 dT.cells ([((⟨m.nr,m.bd.rq⟩:dT):dT)])::PS ((wq wl (m.og-1)).b) a9::Sl a5 a6 41 40 bC.cells (eP (vl.getD (Int.toNat u) aN) (vl.getD (Int.toNat u) aN).pl.length)::aB lp (aQ.cells (RF n kn vb vc (vl.set (Int.toNat u) (RI (vl.getD (Int.toNat u) aN) a1 a2 (((vl.getD (Int.toNat u) aN).pl)++([((⟨m.nr,m.bd.rq⟩:dT):dT)])))) wb wc wl cb cc cl)) 214::Sl (sm vb) vc 209 4 aT.cells (vl.set (Int.toNat u) (RI (vl.getD (Int.toNat u) aN) a1 a2 (((vl.getD (Int.toNat u) aN).pl)++([((⟨m.nr,m.bd.rq⟩:dT):dT)]))))::aB a0 (aH.cells m.bd) 53::aE cA (wl.eraseIdx (Int.toNat (m.og-1)))::aB b5 (aK.cells m) 55::Sl (sm wb) wc 215 1 bD.ptr wl::Sl (sm cb) cc 287 1 bT.cells cl::aE cF cl::L) c3:=(by rw [show aQ.cells (RF n kn vb vc (vl.set (Int.toNat u) (RI (vl.getD (Int.toNat u) aN) a1 a2 (((vl.getD (Int.toNat u) aN).pl)++([((⟨m.nr,m.bd.rq⟩:dT):dT)])))) wb wc wl cb cc cl)=aQ.cells (RF n kn vb vc vl wb wc wl cb cc cl) from by simp only [aQ.cells,List.length_set]];exact bf)
          have bh:=bg.pl 2
          have bi:St w0 (cA (⟨(wq wl (m.og-1)).b,a9⟩:bD)::aE cM (vl.set (Int.toNat u) (RI (vl.getD (Int.toNat u) aN) a1 a2 (((vl.getD (Int.toNat u) aN).pl)++([((⟨m.nr,m.bd.rq⟩:dT):dT)]))))::Sl (sm b6) 1 296 41 dT.cells ([((⟨m.nr,m.bd.rq⟩:dT):dT)])::Sl a5 a6 41 40 bC.cells (eP (vl.getD (Int.toNat u) aN) (vl.getD (Int.toNat u) aN).pl.length)::aB lp (aQ.cells (RF n kn vb vc (vl.set (Int.toNat u) (RI (vl.getD (Int.toNat u) aN) a1 a2 (((vl.getD (Int.toNat u) aN).pl)++([((⟨m.nr,m.bd.rq⟩:dT):dT)])))) wb wc wl cb cc cl)) 214::Sl (sm vb) vc 209 4 aT.cells (vl.set (Int.toNat u) (RI (vl.getD (Int.toNat u) aN) a1 a2 (((vl.getD (Int.toNat u) aN).pl)++([((⟨m.nr,m.bd.rq⟩:dT):dT)]))))::aB a0 (aH.cells m.bd) 53::aE cA (wl.eraseIdx (Int.toNat (m.og-1)))::aB b5 (aK.cells m) 55::Sl (sm wb) wc 215 1 bD.ptr wl::Sl (sm cb) cc 287 1 bT.cells cl::aE cF cl::L) c3:=bh
          have bj:=(bi.pl 7).pl 1
          have bk:St w0 (aE cA (wl.set (Int.toNat (m.og-1)) (⟨(wq wl (m.og-1)).b,a9⟩:bD))::aE cM (vl.set (Int.toNat u) (RI (vl.getD (Int.toNat u) aN) a1 a2 (((vl.getD (Int.toNat u) aN).pl)++([((⟨m.nr,m.bd.rq⟩:dT):dT)]))))::Sl (sm b6) 1 296 41 dT.cells ([((⟨m.nr,m.bd.rq⟩:dT):dT)])::Sl a5 a6 41 40 bC.cells (eP (vl.getD (Int.toNat u) aN) (vl.getD (Int.toNat u) aN).pl.length)::aB lp (aQ.cells (RF n kn vb vc (vl.set (Int.toNat u) (RI (vl.getD (Int.toNat u) aN) a1 a2 (((vl.getD (Int.toNat u) aN).pl)++([((⟨m.nr,m.bd.rq⟩:dT):dT)])))) wb wc wl cb cc cl)) 214::Sl (sm vb) vc 209 4 aT.cells (vl.set (Int.toNat u) (RI (vl.getD (Int.toNat u) aN) a1 a2 (((vl.getD (Int.toNat u) aN).pl)++([((⟨m.nr,m.bd.rq⟩:dT):dT)]))))::aB a0 (aH.cells m.bd) 53::aB b5 (aK.cells m) 55::Sl (sm wb) wc 215 1 bD.ptr wl::Sl (sm cb) cc 287 1 bT.cells cl::aE cF cl::L) c3:=aE.put za bj
          have bm:=bk.pl 8
          have bn:St w0 (Sl (sm wb) wc 215 1 bD.ptr (wl.set (Int.toNat (m.og-1)) (⟨(wq wl (m.og-1)).b,a9⟩:bD))::aE cA (wl.set (Int.toNat (m.og-1)) (⟨(wq wl (m.og-1)).b,a9⟩:bD))::aE cM (vl.set (Int.toNat u) (RI (vl.getD (Int.toNat u) aN) a1 a2 (((vl.getD (Int.toNat u) aN).pl)++([((⟨m.nr,m.bd.rq⟩:dT):dT)]))))::Sl (sm b6) 1 296 41 dT.cells ([((⟨m.nr,m.bd.rq⟩:dT):dT)])::Sl a5 a6 41 40 bC.cells (eP (vl.getD (Int.toNat u) aN) (vl.getD (Int.toNat u) aN).pl.length)::aB lp (aQ.cells (RF n kn vb vc (vl.set (Int.toNat u) (RI (vl.getD (Int.toNat u) aN) a1 a2 (((vl.getD (Int.toNat u) aN).pl)++([((⟨m.nr,m.bd.rq⟩:dT):dT)])))) wb wc wl cb cc cl)) 214::Sl (sm vb) vc 209 4 aT.cells (vl.set (Int.toNat u) (RI (vl.getD (Int.toNat u) aN) a1 a2 (((vl.getD (Int.toNat u) aN).pl)++([((⟨m.nr,m.bd.rq⟩:dT):dT)]))))::aB a0 (aH.cells m.bd) 53::aB b5 (aK.cells m) 55::Sl (sm cb) cc 287 1 bT.cells cl::aE cF cl::L) c3:=(by rw [oH _ _ _ za];exact bm)
          have bo:St w0 (Sl (sm wb) wc 215 1 bD.ptr (wl.set (Int.toNat (m.og-1)) (⟨(wq wl (m.og-1)).b,a9⟩:bD))::aE cA (wl.set (Int.toNat (m.og-1)) (⟨(wq wl (m.og-1)).b,a9⟩:bD))::aE cM (vl.set (Int.toNat u) (RI (vl.getD (Int.toNat u) aN) a1 a2 (((vl.getD (Int.toNat u) aN).pl)++([((⟨m.nr,m.bd.rq⟩:dT):dT)]))))::Sl (sm b6) 1 296 41 dT.cells ([((⟨m.nr,m.bd.rq⟩:dT):dT)])::Sl a5 a6 41 40 bC.cells (eP (vl.getD (Int.toNat u) aN) (vl.getD (Int.toNat u) aN).pl.length)::aB lp (aQ.cells (RF n kn vb vc (vl.set (Int.toNat u) (RI (vl.getD (Int.toNat u) aN) a1 a2 (((vl.getD (Int.toNat u) aN).pl)++([((⟨m.nr,m.bd.rq⟩:dT):dT)])))) wb wc (wl.set (Int.toNat (m.og-1)) (⟨(wq wl (m.og-1)).b,a9⟩:bD)) cb cc cl)) 214::Sl (sm vb) vc 209 4 aT.cells (vl.set (Int.toNat u) (RI (vl.getD (Int.toNat u) aN) a1 a2 (((vl.getD (Int.toNat u) aN).pl)++([((⟨m.nr,m.bd.rq⟩:dT):dT)]))))::aB a0 (aH.cells m.bd) 53::aB b5 (aK.cells m) 55::Sl (sm cb) cc 287 1 bT.cells cl::aE cF cl::L) c3:=(by rw [show aQ.cells (RF n kn vb vc (vl.set (Int.toNat u) (RI (vl.getD (Int.toNat u) aN) a1 a2 (((vl.getD (Int.toNat u) aN).pl)++([((⟨m.nr,m.bd.rq⟩:dT):dT)])))) wb wc (wl.set (Int.toNat (m.og-1)) (⟨(wq wl (m.og-1)).b,a9⟩:bD)) cb cc cl)=aQ.cells (RF n kn vb vc (vl.set (Int.toNat u) (RI (vl.getD (Int.toNat u) aN) a1 a2 (((vl.getD (Int.toNat u) aN).pl)++([((⟨m.nr,m.bd.rq⟩:dT):dT)])))) wb wc wl cb cc cl) from by simp only [aQ.cells,List.length_set]];exact bn)
          have bp:=((((((bo.pl 10).pl 10).pl 3).pl 3).pl 4).pl 8).pl 8
          have bq:St w0 (LS lp (t+1) (RF n kn vb vc (vl.set (Int.toNat u) (RI (vl.getD (Int.toNat u) aN) a1 a2 (((vl.getD (Int.toNat u) aN).pl)++([((⟨m.nr,m.bd.rq⟩:dT):dT)])))) wb wc (wl.set (Int.toNat (m.og-1)) (⟨(wq wl (m.og-1)).b,a9⟩:bD)) cb cc cl)::Sl (sm b6) 1 296 41 dT.cells ([((⟨m.nr,m.bd.rq⟩:dT):dT)])::Sl a5 a6 41 40 bC.cells (eP (vl.getD (Int.toNat u) aN) (vl.getD (Int.toNat u) aN).pl.length)::aB a0 (aH.cells m.bd) 53::aB b5 (aK.cells m) 55::L) c3:=Bd.close ((hI.grow kI (x:=RI (vl.getD (Int.toNat u) aN) a1 a2 (((vl.getD (Int.toNat u) aN).pl)++([((⟨m.nr,m.bd.rq⟩:dT):dT)]))) rfl zJ).z4 za i0 z7 (hI.Qn kI za i0 hig.2 z9 rfl zJ)) bp
          have br:=((((bq.pl 0).pl 4).pl 4).pl 4).pl 4
          exact⟨true,RF n kn vb vc (vl.set (Int.toNat u) (RI (vl.getD (Int.toNat u) aN) a1 a2 (((vl.getD (Int.toNat u) aN).pl)++([((⟨m.nr,m.bd.rq⟩:dT):dT)])))) wb wc (wl.set (Int.toNat (m.og-1)) (⟨(wq wl (m.og-1)).b,a9⟩:bD)) cb cc cl,rfl,rfl,br.dr 4⟩
    ·have u7:=lf g5
     refine En (Lq (Dz (eZ (t:=(m.bd.kd:Int) == 2) (λh3=>?_) (λh3=>?_))))
     ·have bt:=kr h3
      refine Zs (Zs (aX.join (T:=Unit) (E:=λ_=>[(182,.bool (((((a8:Nat)+1):Int) == m.og) || (decide ((u:Int)<0)))),(8,.int .i64 u),(6,zP a0 0),(5,zP ((wq wl (m.og-1)).b) 0),(4,.bool false),(3,zP b5 0),(0,zP lp 0)]) (F:=λ_ w=>St w0 (aB lp (aQ.cells (RF n kn vb vc vl wb wc wl cb cc cl)) 214::Sl (sm vb) vc 209 4 aT.cells vl::aB a0 (aH.cells m.bd) 53::PS ((wq wl (m.og-1)).b) ((wq wl (m.og-1)).x)::aE cA (wl.eraseIdx (Int.toNat (m.og-1)))::aB b5 (aK.cells m) 55::aE cM vl::Sl (sm wb) wc 215 1 bD.ptr wl::Sl (sm cb) cc 287 1 bT.cells cl::aE cF cl::L) w) ?_ ?_))
      ·refine Zg [] (Zr 0 2 [] (iy 179 ((((a8:Nat)+1):Int) == m.og) (λe5=>?_) (λe5=>?_)))
       ·exact En (cI (Dz (lM [182,8,6,5,4,3,0] () true (by first|rfl|simp [Hb,e5]) b0)))
       ·exact En (cI (Dz (lM [182,8,6,5,4,3,0] () (decide ((u:Int)<0)) (by first|rfl|simp [Hb,e5]) b0)))
      intro _ e6 i2
      refine Zt (eZ (t:=((((a8:Nat)+1):Int) == m.og) || (decide ((u:Int)<0))) (λh4=>?_) (λh4=>?_))
      ·refine En (Lq (Le (Ly (Ll (Ly (Dz (bY (v:=.bool false) ?_)))))))
       have bv:=i2.pl 3
       have bw:St w0 (cA (wq wl (m.og-1))::aB lp (aQ.cells (RF n kn vb vc vl wb wc wl cb cc cl)) 214::Sl (sm vb) vc 209 4 aT.cells vl::aB a0 (aH.cells m.bd) 53::aE cA (wl.eraseIdx (Int.toNat (m.og-1)))::aB b5 (aK.cells m) 55::aE cM vl::Sl (sm wb) wc 215 1 bD.ptr wl::Sl (sm cb) cc 287 1 bT.cells cl::aE cF cl::L) e6:=bv
       have bx:=(bw.pl 4).pl 1
       have bz:St w0 (aE cA wl::aB lp (aQ.cells (RF n kn vb vc vl wb wc wl cb cc cl)) 214::Sl (sm vb) vc 209 4 aT.cells vl::aB a0 (aH.cells m.bd) 53::aB b5 (aK.cells m) 55::aE cM vl::Sl (sm wb) wc 215 1 bD.ptr wl::Sl (sm cb) cc 287 1 bT.cells cl::aE cF cl::L) e6:=aE.jK bM za bx
       have cd:=((((((bz.pl 8).pl 8).pl 2).pl 8).pl 8).pl 6).pl 6
       have ce:St w0 (LS lp (t+1) (RF n kn vb vc vl wb wc wl cb cc cl)::aB a0 (aH.cells m.bd) 53::aB b5 (aK.cells m) 55::L) e6:=Bd.close hI.mono cd
       have cf:=((ce.pl 0).pl 2).pl 2
       exact⟨false,RF n kn vb vc vl wb wc wl cb cc cl,rfl,rfl,cf.dr 2⟩
      ·have cj:=(Bool.or_eq_false_iff.1 h4).1
       have gk:=lf cj
       have ck:=(Bool.or_eq_false_iff.1 h4).2
       have gl:=of_decide_eq_false ck
       refine Zk (Zt (Zs ?_))
       have hig:=Br.ge f4 za
       have kI:Int.toNat u<vl.length:=za
       have hvs:=hI.hs _ (bJ (d:=aN) kI)
       have cn:=i2.pl 6
       have co:St w0 (cM (vl.getD (Int.toNat u) aN)::aE cM (vl.eraseIdx (Int.toNat u))::aB lp (aQ.cells (RF n kn vb vc vl wb wc wl cb cc cl)) 214::Sl (sm vb) vc 209 4 aT.cells vl::aB a0 (aH.cells m.bd) 53::PS ((wq wl (m.og-1)).b) ((wq wl (m.og-1)).x)::aE cA (wl.eraseIdx (Int.toNat (m.og-1)))::aB b5 (aK.cells m) 55::Sl (sm wb) wc 215 1 bD.ptr wl::Sl (sm cb) cc 287 1 bT.cells cl::aE cF cl::L) e6:=aE.take aN za cn
       obtain⟨_,cq⟩:=Bd.open co
       have h5:St w0 (Sl ((vl.getD (Int.toNat u) aN).sa) ((vl.getD (Int.toNat u) aN).sc) 41 40 bC.cells ((vl.getD (Int.toNat u) aN).sl)::Sl ((vl.getD (Int.toNat u) aN).pa) ((vl.getD (Int.toNat u) aN).pc) 296 41 dT.cells ((vl.getD (Int.toNat u) aN).pl)::aE cM (vl.eraseIdx (Int.toNat u))::aB lp (aQ.cells (RF n kn vb vc vl wb wc wl cb cc cl)) 214::Sl (sm vb) vc 209 4 aT.cells vl::aB a0 (aH.cells m.bd) 53::PS ((wq wl (m.og-1)).b) ((wq wl (m.og-1)).x)::aE cA (wl.eraseIdx (Int.toNat (m.og-1)))::aB b5 (aK.cells m) 55::Sl (sm wb) wc 215 1 bD.ptr wl::Sl (sm cb) cc 287 1 bT.cells cl::aE cF cl::L) e6:=cq
       refine dE (Hl 3 3 12 h5 (Hx 5 (u:Int) (vl.length:Int) vb 0 4 (Hg 7 (.gen [.slice ((vl.getD (Int.toNat u) aN).sa) ((vl.getD (Int.toNat u) aN).sl.length) ((vl.getD (Int.toNat u) aN).sc)]) [.cell ⟨vb,0+((Int.toNat u)*4)+2,none⟩ (.slice ((vl.getD (Int.toNat u) aN).sa) ((vl.getD (Int.toNat u) aN).sl.length) ((vl.getD (Int.toNat u) aN).sc))] (bE (aC.cV (h5.rows 4 rfl jJ.size aN) (k:=Int.toNat u) zo (j:=2) zb zk) aR) Hz))) (En (Lt (Ls (Lq (Lb (Dz (aX.loop (T:=Nat×Int) (λgg=>[(0,zP lp 0),(3,zP b5 0),(4,.bool false),(5,zP ((wq wl (m.og-1)).b) 0),(6,zP a0 0),(8,.int .i64 u),(9,.int .i64 gg.2),(10,.int .i64 (gg.1:Nat))]) (λgg w=>(gg.1 <= (vl.getD (Int.toNat u) aN).pl.length /\ 0 <= gg.2 /\ gg.2 <= (((vl.getD (Int.toNat u) aN).sl.length+gg.1:Nat):Int)) /\ St w0 (Sl ((vl.getD (Int.toNat u) aN).sa) ((vl.getD (Int.toNat u) aN).sc) 41 40 bC.cells ((vl.getD (Int.toNat u) aN).sl)::Sl ((vl.getD (Int.toNat u) aN).pa) ((vl.getD (Int.toNat u) aN).pc) 296 41 dT.cells ((vl.getD (Int.toNat u) aN).pl)::aE cM (vl.eraseIdx (Int.toNat u))::aB lp (aQ.cells (RF n kn vb vc vl wb wc wl cb cc cl)) 214::Sl (sm vb) vc 209 4 aT.cells vl::aB a0 (aH.cells m.bd) 53::PS ((wq wl (m.og-1)).b) ((wq wl (m.og-1)).x)::aE cA (wl.eraseIdx (Int.toNat (m.og-1)))::aB b5 (aK.cells m) 55::Sl (sm wb) wc 215 1 bD.ptr wl::Sl (sm cb) cc 287 1 bT.cells cl::aE cF cl::L) w) (λgg=>(vl.getD (Int.toNat u) aN).pl.length-gg.1) (0,((vl.getD (Int.toNat u) aN).sl.length)) [0,3,4,5,6,8,9,10] zk ⟨⟨Nat.zero_le _,za,za⟩,h5⟩ ?_)))))))
       rintro⟨i,ms⟩ cr ⟨hp,c4⟩
       dsimp only at hp c4
       refine Zs (Zs ?_)
       refine dE (Hl 4 3 12 c4 (Hx 6 (u:Int) (vl.length:Int) vb 0 4 (Hg 8 (.gen [.slice ((vl.getD (Int.toNat u) aN).pa) ((vl.getD (Int.toNat u) aN).pl.length) ((vl.getD (Int.toNat u) aN).pc)]) [.cell ⟨vb,0+((Int.toNat u)*4)+3,none⟩ (.slice ((vl.getD (Int.toNat u) aN).pa) ((vl.getD (Int.toNat u) aN).pl.length) ((vl.getD (Int.toNat u) aN).pc))] (bE (aC.cV (c4.rows 4 rfl jJ.size aN) (k:=Int.toNat u) zo (j:=3) zb zk) aR) Hz))) (Zt (Zi ((i:Int)<((vl.getD (Int.toNat u) aN).pl.length:Nat)) (λcu=>?_) (λcu=>?_)))
       ·have hk:i<(vl.getD (Int.toNat u) aN).pl.length:=za
        obtain⟨pb,hpa⟩:=Sl.isSome (c4.at_ 1 rfl) za
        have cv:St w0 (Sl ((vl.getD (Int.toNat u) aN).sa) ((vl.getD (Int.toNat u) aN).sc) 41 40 bC.cells ((vl.getD (Int.toNat u) aN).sl)::Sl (sm pb) ((vl.getD (Int.toNat u) aN).pc) 296 41 dT.cells ((vl.getD (Int.toNat u) aN).pl)::aE cM (vl.eraseIdx (Int.toNat u))::aB lp (aQ.cells (RF n kn vb vc vl wb wc wl cb cc cl)) 214::Sl (sm vb) vc 209 4 aT.cells vl::aB a0 (aH.cells m.bd) 53::PS ((wq wl (m.og-1)).b) ((wq wl (m.og-1)).x)::aE cA (wl.eraseIdx (Int.toNat (m.og-1)))::aB b5 (aK.cells m) 55::Sl (sm wb) wc 215 1 bD.ptr wl::Sl (sm cb) cc 287 1 bT.cells cl::aE cF cl::L) cr:=(by rw [<- show _=sm pb from hpa];exact c4)
        refine Zk (Zt (Zs (Zb (Zs (ZD (gE [0,1,2,3,4,5,6,7,8,9,10,11,12,13,14,15,16,17,20] (.ef 18 (gE [19,21,22,23] .done))) cv λgm d3 gn=>?_)))))
        refine Zj (Hl 3 3 12 d3 (Hx 5 (u:Int) (vl.length:Int) vb 0 4 (Hg 7 (.gen [zL pb 0 ((vl.getD (Int.toNat u) aN).pl.length) ((vl.getD (Int.toNat u) aN).pc)]) [.cell ⟨vb,0+((Int.toNat u)*4)+3,none⟩ (zL pb 0 ((vl.getD (Int.toNat u) aN).pl.length) ((vl.getD (Int.toNat u) aN).pc))] (bE (Bp hpa (aC.cV (d3.rows 4 rfl jJ.size aN) (k:=Int.toNat u) zo (j:=3) zb zk)) aR) (Hx 9 (i:Int) (((vl.getD (Int.toNat u) aN).pl.length:Nat):Int) pb 0 41 (Hg 11 (.gen [.int .u64 ((((vl.getD (Int.toNat u) aN).pl).getD i lN).nm)]) [.cell ⟨pb,0+(i*41),none⟩ (.int .u64 ((((vl.getD (Int.toNat u) aN).pl).getD i lN).nm))] (bE (aC.cV (d3.rows 1 rfl IV.size lN) (k:=i) zo (j:=0) zb zk) aR) (Hl 15 3 0 d3 (Hl 17 5 1 d3 Hz))))))) (Zc (na n m.bd.vw zc zc d3) ?_)
        rintro gq i3 ⟨c5,rfl,gs,gt,d4⟩
        refine⟨gR (n:=[.cell ⟨pb,0+(i*41),none⟩ (.int .u64 ((((vl.getD (Int.toNat u) aN).pl).getD i lN).nm)),.prop (0 <= (i:Int) /\ (i:Int)<(((vl.getD (Int.toNat u) aN).pl.length:Nat):Int)),.prop (Value.pointer (some (Addr.add ⟨pb,0,none⟩ (Int.toNat (i:Nat)*41)))=Value.pointer (some ⟨pb,0+(i*41),none⟩)),.cell ⟨vb,0+((Int.toNat u)*4)+3,none⟩ (zL pb 0 ((vl.getD (Int.toNat u) aN).pl.length) ((vl.getD (Int.toNat u) aN).pc)),.prop (0 <= (u:Int) /\ (u:Int)<(vl.length:Int)),.prop (Value.pointer (some (Addr.add ⟨vb,0,none⟩ (Int.toNat u*4)))=Value.pointer (some ⟨vb,0+((Int.toNat u)*4),none⟩)),.cell ⟨lp,12,none⟩ (zL vb 0 vl.length vc)]) zk (bE (aC.cV (d4.rows 1 rfl IV.size lN) (k:=i) zo (j:=0) zb zk) (aJ za (aJ (aU _ _ _) (bE (Bp hpa (aC.cV (d4.rows 4 rfl jJ.size aN) (k:=Int.toNat u) zo (j:=3) zb zk)) (aJ za (aJ (aU _ _ _) (bE (d4.cell 3 rfl zk) aR))))))),kV (Hg 19 (.dH (.int .i64 (c5:Nat)) (.gen [])) [.prop (Value.int .i64 (IntKind.i64.wrap (((c5:Nat)+1)-1))=Value.int .i64 (c5:Nat))] (aJ (ct za za za) aR) (Hx 21 (c5:Int) (11:Int) b5 2 1 (Hg 22 (.gen [.int .u64 (m.dp.toList.getD c5 0)]) [.cell ⟨b5,2+(c5*1),none⟩ (.int .u64 (m.dp.toList.getD c5 0))] (bE (d4.cell 8 rfl (aP.ry (off:=2) (d:=m.dp) zk za)) aR) Hz))) (Zt (Zi (((((vl.getD (Int.toNat u) aN).pl).getD i lN).nm:Int) <= (m.dp.toList.getD c5 0)) (λcw=>?_) (λcw=>?_)))⟩
        ·refine dE (eT 1 (ms+1) Hz) (Zm (Zt (dE (eT 1 ((i:Nat)+1) Hz) ?_)))
         have cx:St w0 (Sl ((vl.getD (Int.toNat u) aN).sa) ((vl.getD (Int.toNat u) aN).sc) 41 40 bC.cells ((vl.getD (Int.toNat u) aN).sl)::Sl ((vl.getD (Int.toNat u) aN).pa) ((vl.getD (Int.toNat u) aN).pc) 296 41 dT.cells ((vl.getD (Int.toNat u) aN).pl)::aE cM (vl.eraseIdx (Int.toNat u))::aB lp (aQ.cells (RF n kn vb vc vl wb wc wl cb cc cl)) 214::Sl (sm vb) vc 209 4 aT.cells vl::aB a0 (aH.cells m.bd) 53::PS ((wq wl (m.og-1)).b) ((wq wl (m.og-1)).x)::aE cA (wl.eraseIdx (Int.toNat (m.og-1)))::aB b5 (aK.cells m) 55::Sl (sm wb) wc 215 1 bD.ptr wl::Sl (sm cb) cc 287 1 bT.cells cl::aE cF cl::L) i3:=(by rw [hpa];exact d4)
         exact aS.back (i+1,ms+1) [0,3,4,5,6,8,9,10] zk (by show(vl.getD (Int.toNat u) aN).pl.length-(i+1)<(vl.getD (Int.toNat u) aN).pl.length-i;omega) ⟨za,cx⟩
        ·refine Zk (Zm (Zt (dE (eT 1 ((i:Nat)+1) Hz) ?_)))
         have cy:St w0 (Sl ((vl.getD (Int.toNat u) aN).sa) ((vl.getD (Int.toNat u) aN).sc) 41 40 bC.cells ((vl.getD (Int.toNat u) aN).sl)::Sl ((vl.getD (Int.toNat u) aN).pa) ((vl.getD (Int.toNat u) aN).pc) 296 41 dT.cells ((vl.getD (Int.toNat u) aN).pl)::aE cM (vl.eraseIdx (Int.toNat u))::aB lp (aQ.cells (RF n kn vb vc vl wb wc wl cb cc cl)) 214::Sl (sm vb) vc 209 4 aT.cells vl::aB a0 (aH.cells m.bd) 53::PS ((wq wl (m.og-1)).b) ((wq wl (m.og-1)).x)::aE cA (wl.eraseIdx (Int.toNat (m.og-1)))::aB b5 (aK.cells m) 55::Sl (sm wb) wc 215 1 bD.ptr wl::Sl (sm cb) cc 287 1 bT.cells cl::aE cF cl::L) i3:=(by rw [hpa];exact d4)
         exact aS.back (i+1,ms) [0,3,4,5,6,8,9,10] zk (by show(vl.getD (Int.toNat u) aN).pl.length-(i+1)<(vl.getD (Int.toNat u) aN).pl.length-i;omega) ⟨za,cy⟩
       ·refine Zx (aS.eQ (aS.eR (aS.kI (Zt (Zs (dZ [6] (Hl 2 5 1 c4 (Hl 4 5 2 c4 Hz)) (Zc (wD ((wq wl (m.og-1)).x) m.bd.vw m.bd.k ms zc (λy hy=>by have:=(hpo.2 y hy).lt hI.hs;omega) zc (c4.pl 6)) ?_)))))))
        rintro gu b1 (⟨rfl,da⟩|⟨b2,rfl,db,dc,i4,dd,de⟩)
        ·refine Lz (Le (Ll (Ly (Dz (bY (v:=.bool false) ?_)))))
         have df:=(da.pl 2).pl 2
         have dh:St w0 (cM (vl.getD (Int.toNat u) aN)::PS ((wq wl (m.og-1)).b) ((wq wl (m.og-1)).x)::aE cM (vl.eraseIdx (Int.toNat u))::aB lp (aQ.cells (RF n kn vb vc vl wb wc wl cb cc cl)) 214::Sl (sm vb) vc 209 4 aT.cells vl::aB a0 (aH.cells m.bd) 53::aE cA (wl.eraseIdx (Int.toNat (m.og-1)))::aB b5 (aK.cells m) 55::Sl (sm wb) wc 215 1 bD.ptr wl::Sl (sm cb) cc 287 1 bT.cells cl::aE cF cl::L) b1:=Bd.close trivial df
         have di:=(dh.pl 2).pl 1
         have dj:St w0 (aE cM vl::PS ((wq wl (m.og-1)).b) ((wq wl (m.og-1)).x)::aB lp (aQ.cells (RF n kn vb vc vl wb wc wl cb cc cl)) 214::Sl (sm vb) vc 209 4 aT.cells vl::aB a0 (aH.cells m.bd) 53::aE cA (wl.eraseIdx (Int.toNat (m.og-1)))::aB b5 (aK.cells m) 55::Sl (sm wb) wc 215 1 bD.ptr wl::Sl (sm cb) cc 287 1 bT.cells cl::aE cF cl::L) b1:=aE.jK aN za di
         have dk:=dj.pl 1
         have dl:St w0 (cA (wq wl (m.og-1))::aE cM vl::aB lp (aQ.cells (RF n kn vb vc vl wb wc wl cb cc cl)) 214::Sl (sm vb) vc 209 4 aT.cells vl::aB a0 (aH.cells m.bd) 53::aE cA (wl.eraseIdx (Int.toNat (m.og-1)))::aB b5 (aK.cells m) 55::Sl (sm wb) wc 215 1 bD.ptr wl::Sl (sm cb) cc 287 1 bT.cells cl::aE cF cl::L) b1:=dk
         have dm:=(dl.pl 5).pl 1
         have dn:St w0 (aE cA wl::aE cM vl::aB lp (aQ.cells (RF n kn vb vc vl wb wc wl cb cc cl)) 214::Sl (sm vb) vc 209 4 aT.cells vl::aB a0 (aH.cells m.bd) 53::aB b5 (aK.cells m) 55::Sl (sm wb) wc 215 1 bD.ptr wl::Sl (sm cb) cc 287 1 bT.cells cl::aE cF cl::L) b1:=aE.jK bM za dm
         have dq:=((((((dn.pl 8).pl 8).pl 2).pl 8).pl 4).pl 6).pl 6
         have ds:St w0 (LS lp (t+1) (RF n kn vb vc vl wb wc wl cb cc cl)::aB a0 (aH.cells m.bd) 53::aB b5 (aK.cells m) 55::L) b1:=Bd.close hI.mono dq
         have dt:=((ds.pl 0).pl 2).pl 2
         exact⟨false,RF n kn vb vc vl wb wc wl cb cc cl,rfl,rfl,dt.dr 2⟩
        ·refine Lz (Le (Ll (Ly (Dz (bY (v:=.bool true) ?_)))))
         have dv:=(de.pl 2).pl 2
         have dx:St w0 (cM (vl.getD (Int.toNat u) aN)::PS ((wq wl (m.og-1)).b) b2::aE cM (vl.eraseIdx (Int.toNat u))::aB lp (aQ.cells (RF n kn vb vc vl wb wc wl cb cc cl)) 214::Sl (sm vb) vc 209 4 aT.cells vl::aB a0 (aH.cells m.bd) 53::aE cA (wl.eraseIdx (Int.toNat (m.og-1)))::aB b5 (aK.cells m) 55::Sl (sm wb) wc 215 1 bD.ptr wl::Sl (sm cb) cc 287 1 bT.cells cl::aE cF cl::L) b1:=Bd.close trivial dv
         have dy:=(dx.pl 2).pl 1
         have dz:St w0 (aE cM vl::PS ((wq wl (m.og-1)).b) b2::aB lp (aQ.cells (RF n kn vb vc vl wb wc wl cb cc cl)) 214::Sl (sm vb) vc 209 4 aT.cells vl::aB a0 (aH.cells m.bd) 53::aE cA (wl.eraseIdx (Int.toNat (m.og-1)))::aB b5 (aK.cells m) 55::Sl (sm wb) wc 215 1 bD.ptr wl::Sl (sm cb) cc 287 1 bT.cells cl::aE cF cl::L) b1:=aE.jK aN za dy
         have ea:=dz.pl 1
         have eb:St w0 (cA (⟨(wq wl (m.og-1)).b,b2⟩:bD)::aE cM vl::aB lp (aQ.cells (RF n kn vb vc vl wb wc wl cb cc cl)) 214::Sl (sm vb) vc 209 4 aT.cells vl::aB a0 (aH.cells m.bd) 53::aE cA (wl.eraseIdx (Int.toNat (m.og-1)))::aB b5 (aK.cells m) 55::Sl (sm wb) wc 215 1 bD.ptr wl::Sl (sm cb) cc 287 1 bT.cells cl::aE cF cl::L) b1:=ea
         have ec:=(eb.pl 5).pl 1
         have ed:St w0 (aE cA (wl.set (Int.toNat (m.og-1)) (⟨(wq wl (m.og-1)).b,b2⟩:bD))::aE cM vl::aB lp (aQ.cells (RF n kn vb vc vl wb wc wl cb cc cl)) 214::Sl (sm vb) vc 209 4 aT.cells vl::aB a0 (aH.cells m.bd) 53::aB b5 (aK.cells m) 55::Sl (sm wb) wc 215 1 bD.ptr wl::Sl (sm cb) cc 287 1 bT.cells cl::aE cF cl::L) b1:=aE.put za ec
         have ee:=ed.pl 6
         have eg:St w0 (Sl (sm wb) wc 215 1 bD.ptr (wl.set (Int.toNat (m.og-1)) (⟨(wq wl (m.og-1)).b,b2⟩:bD))::aE cA (wl.set (Int.toNat (m.og-1)) (⟨(wq wl (m.og-1)).b,b2⟩:bD))::aE cM vl::aB lp (aQ.cells (RF n kn vb vc vl wb wc wl cb cc cl)) 214::Sl (sm vb) vc 209 4 aT.cells vl::aB a0 (aH.cells m.bd) 53::aB b5 (aK.cells m) 55::Sl (sm cb) cc 287 1 bT.cells cl::aE cF cl::L) b1:=(by rw [oH _ _ _ za];exact ee)
         have eh:St w0 (Sl (sm wb) wc 215 1 bD.ptr (wl.set (Int.toNat (m.og-1)) (⟨(wq wl (m.og-1)).b,b2⟩:bD))::aE cA (wl.set (Int.toNat (m.og-1)) (⟨(wq wl (m.og-1)).b,b2⟩:bD))::aE cM vl::aB lp (aQ.cells (RF n kn vb vc vl wb wc (wl.set (Int.toNat (m.og-1)) (⟨(wq wl (m.og-1)).b,b2⟩:bD)) cb cc cl)) 214::Sl (sm vb) vc 209 4 aT.cells vl::aB a0 (aH.cells m.bd) 53::aB b5 (aK.cells m) 55::Sl (sm cb) cc 287 1 bT.cells cl::aE cF cl::L) b1:=(by rw [show aQ.cells (RF n kn vb vc vl wb wc (wl.set (Int.toNat (m.og-1)) (⟨(wq wl (m.og-1)).b,b2⟩:bD)) cb cc cl)=aQ.cells (RF n kn vb vc vl wb wc wl cb cc cl) from by simp only [aQ.cells,List.length_set]];exact eg)
         have ei:=((((((eh.pl 8).pl 8).pl 3).pl 3).pl 4).pl 6).pl 6
         have ej:St w0 (LS lp (t+1) (RF n kn vb vc vl wb wc (wl.set (Int.toNat (m.og-1)) (⟨(wq wl (m.og-1)).b,b2⟩:bD)) cb cc cl)::aB a0 (aH.cells m.bd) 53::aB b5 (aK.cells m) 55::L) b1:=Bd.close (hI.z4 za i4 db (hI.Rl kI za i4 hig.2 dc dd za)).mono ei
         have ek:=((ej.pl 0).pl 2).pl 2
         exact⟨true,RF n kn vb vc vl wb wc (wl.set (Int.toNat (m.og-1)) (⟨(wq wl (m.og-1)).b,b2⟩:bD)) cb cc cl,rfl,rfl,ek.dr 2⟩
     ·refine Zk (Zm (Zt (Zs (dE (Hl 1 2 0 b0 Hz) (Zt (Ze (bY (v:=.bool ((m.bd.kd:Int) == 6)) ?_)))))))
      have em:=b0.pl 3
      have en:St w0 (cA (wq wl (m.og-1))::aB lp (aQ.cells (RF n kn vb vc vl wb wc wl cb cc cl)) 214::Sl (sm vb) vc 209 4 aT.cells vl::aB a0 (aH.cells m.bd) 53::aE cA (wl.eraseIdx (Int.toNat (m.og-1)))::aB b5 (aK.cells m) 55::aE cM vl::Sl (sm wb) wc 215 1 bD.ptr wl::Sl (sm cb) cc 287 1 bT.cells cl::aE cF cl::L) b7:=em
      have eo:=(en.pl 4).pl 1
      have ep:St w0 (aE cA wl::aB lp (aQ.cells (RF n kn vb vc vl wb wc wl cb cc cl)) 214::Sl (sm vb) vc 209 4 aT.cells vl::aB a0 (aH.cells m.bd) 53::aB b5 (aK.cells m) 55::aE cM vl::Sl (sm wb) wc 215 1 bD.ptr wl::Sl (sm cb) cc 287 1 bT.cells cl::aE cF cl::L) b7:=aE.jK bM za eo
      have es:=((((((ep.pl 8).pl 8).pl 2).pl 8).pl 8).pl 6).pl 6
      have et:St w0 (LS lp (t+1) (RF n kn vb vc vl wb wc wl cb cc cl)::aB a0 (aH.cells m.bd) 53::aB b5 (aK.cells m) 55::L) b7:=Bd.close hI.mono es
      have eu:=((et.pl 0).pl 2).pl 2
      exact⟨(m.bd.kd:Int) == 6,RF n kn vb vc vl wb wc wl cb cc cl,rfl,rfl,eu.dr 2⟩
section
variable {w0 w : World} {L : List bA}
theorem He {m:aK}(h:gv m=true):m.bd.ql.length <= 100:=by
 have u:jd m.bd=true:=by
  unfold gv at h
  split at h
  ·cases h
  ·split at h
   ·exact h
   ·cases h
 have:=(lq u).2.2
 omega
theorem Mw {m:aK}(h:gv m=true):iR m.bd=true:=(lq (pB h)).2.1
theorem NW {x:aH}(h:iR x=true) (hk:x.kd=4):1 <= x.vw /\ kL 0 x.ql=true:=by
 unfold iR at h
 rw [if_neg za,if_neg za,if_pos hk] at h
 simp only [Bool.and_eq_true,decide_eq_true_eq,oq] at h
 exact⟨h.1,h.2.1⟩
theorem Ac:∀ (l:List bu) (was:Int),kL was l=true -> ∀ i,i<l.length -> was<(l.getD i bG).rp /\ (l.getD i bG).rp <= 11 /\ 1 <= (l.getD i bG).nm /\ (l.getD i bG).nm <= 65536
 | [],_,_,i,hi=>absurd hi (Nat.not_lt_zero _)
 | p::l,was,h,i,hi=>by
  unfold kL at h
  split at h
  ·cases h
  ·rename_i hn
   match i with
   | 0=>show was<p.rp /\ p.rp <= 11 /\ 1 <= p.nm /\ p.nm <= 65536;omega
   | i+1 =>
    have:=Ac l p.rp h i (Nat.lt_of_succ_lt_succ hi)
    show was<(l.getD i bG).rp /\ _
    exact⟨za,this.2⟩
def aP.put (v:aP) (i:Nat) (x:Int):aP:=#v[if i=0 then x else v[0],if i=1 then x else v[1],if i=2 then x else v[2],if i=3 then x else v[3],if i=4 then x else v[4],if i=5 then x else v[5],if i=6 then x else v[6],if i=7 then x else v[7],if i=8 then x else v[8],if i=9 then x else v[9],if i=10 then x else v[10]]
theorem aP.rF {p:Int -> Prop}{v:aP}{i:Nat}{x:Int}(h:∀ z∈v.toList,p z) (hx:p x):∀ z∈(aP.put v i x).toList,p z:=by
 have hk:∀ k (hk:k<11),p v[k]:=λk hk=>h _ (by simp [Vector.toList])
 intro z hz
 simp only [aP.put,Vector.toList,List.mem_cons,List.not_mem_nil,or_false] at hz
 rcases hz with rfl|rfl|rfl|rfl|rfl|rfl|rfl|rfl|rfl|rfl|rfl
 all_goals (split;exact hx;exact hk _ zb)
theorem aP.Mx (d:aP) (v:Int){k:Nat}(hk:k<11):aV (aP.cells d) (k*1) [.int .u64 v]=aP.cells (aP.put d k v):=by
 match k,hk with
 | 0,_=>rfl
 | 1,_=>rfl
 | 2,_=>rfl
 | 3,_=>rfl
 | 4,_=>rfl
 | 5,_=>rfl
 | 6,_=>rfl
 | 7,_=>rfl
 | 8,_=>rfl
 | 9,_=>rfl
 | 10,_=>rfl
 | m+11,h=>omega
theorem aQ.Mx (x:aQ) (v:Int){k:Nat}(hk:k<11):aV (aQ.cells x) (1+(k*1)) [.int .u64 v]=aQ.cells ⟨x.n,aP.put x.kn k v,x.va,x.vc,x.vl,x.wa,x.wc,x.wl,x.ca,x.cc,x.cl⟩:=by
 match k,hk with
 | 0,_=>rfl
 | 1,_=>rfl
 | 2,_=>rfl
 | 3,_=>rfl
 | 4,_=>rfl
 | 5,_=>rfl
 | 6,_=>rfl
 | 7,_=>rfl
 | 8,_=>rfl
 | 9,_=>rfl
 | 10,_=>rfl
 | m+11,h=>omega
theorem Bs {lp:Nat}(t:Nat) (x:aQ) (m:aK) (hm:lP m) (ht:t <= 99) (hr:Rw w0 L bu.cells 2 bG m.bd.qa m.bd.ql) (hs:St w0 (LS lp t x::L) w):Cs Tryz.prog 56 #[zP lp 0,.agg (aK.cells m)] w λrv w'=>∃ (ob2:Bool) (iv2:Int) (y2:aQ),rv=.tuple #[.bool ob2,.int .i64 iv2] /\ y2.n=x.n /\ St w0 (LS lp (t+1) y2::L) w':=by
 obtain⟨hI,b7⟩:=Bd.open hs
 have b9:St w0 (aB lp (aQ.cells x) 214::Sl x.va x.vc 209 4 aT.cells x.vl::aE cM x.vl::Sl x.wa x.wc 215 1 bD.ptr x.wl::aE cA x.wl::Sl x.ca x.cc 287 1 bT.cells x.cl::aE cF x.cl::L) w:=b7
 refine dF Tryz.func56 Tryz.ntmps56 ?_
 refine En (Ls (Lg [0] (Dz ?_)))
 refine mT (aK.cells m) b9 ?_
 intro z w3 c0
 refine Lz (Ls (Ls (Dz ?_)))
 refine ZD (.rd 0 (.ef 1 (gE [2,3,4,5,6,7,8,9,10,11] .done))) c0 ?_
 intro w5 b3 h5
 refine Zj (hP 0 0 0 121 (aK.cells m) b3 Hz) ?_
 refine dJ (f:=50) (args:=#[.agg (aK.cells m)]) Tryz.call50 (pC m hm (λw h=>hr _ (h.drop 8)) b3) ?_
 rintro v9 b4 ⟨rfl,a0⟩
 refine Lo (Dz ?_)
 refine Zr 2 2 [] ?_
 refine iy 12 (!(gv m)) (λa7=>?_) (λa7=>?_)
 ·have a8:(gv m)=false:=sA a7
  refine En (cI (Lt (LT (Lq (Le (Ly (Dz ?_)))))))
  refine Jq (v:=.bool false) (v':=.int .i64 1) ?_
  have c1:=((((((a0.pl 7).pl 7).pl 7).pl 7).pl 7).pl 7).pl 7
  have c2:St w0 (LS lp (t+1) x::aB z (aK.cells m) 55::L) b4:=Bd.close hI.mono c1
  have c3:=(c2.pl 0).pl 1
  have c4:=c3.dr 1
  exact⟨false,1,x,rfl,rfl,c4⟩
 ·have a8:(gv m)=true:=pK a7
  have hmay:gv m=true:=a8
  have hmt:=vY a8
  have hlq:=He hmay
  refine kV (Hl 5 0 0 a0 (Hl 9 1 0 a0 Hz)) ?_
  refine Zt ?_
  refine Zi ((m.og:Int)>x.n) (λc5=>?_) (λc5=>?_)
  ·refine En (Lq (Le (Ly (Dz ?_))))
   refine Jq (v:=.bool false) (v':=.int .i64 1) ?_
   have c6:=((((((a0.pl 7).pl 7).pl 7).pl 7).pl 7).pl 7).pl 7
   have c7:St w0 (LS lp (t+1) x::aB z (aK.cells m) 55::L) b4:=Bd.close hI.mono c6
   have c9:=(c7.pl 0).pl 1
   have d1:=c9.dr 1
   exact⟨false,1,x,rfl,rfl,d1⟩
  ·refine En (Lk (Lt (Ls (Lq (Lb (Dz ?_))))))
   refine aX.loop (T:=Nat) (λgg=>[(0,zP lp 0),(3,zP z 0),(6,.int .i64 (gg:Nat))]) (λgg w=>(gg <= m.bd.ql.length /\ ∀ j,j<gg -> (m.bd.ql.getD j bG).rp <= x.n) /\ St w0 (aB z (aK.cells m) 55::aB lp (aQ.cells x) 214::Sl x.va x.vc 209 4 aT.cells x.vl::aE cM x.vl::Sl x.wa x.wc 215 1 bD.ptr x.wl::aE cA x.wl::Sl x.ca x.cc 287 1 bT.cells x.cl::aE cF x.cl::L) w) (λgg=>m.bd.ql.length-gg) 0 [0,3,6] zk ⟨⟨Nat.zero_le _,λj hj=>absurd hj (Nat.not_lt_zero _)⟩,a0⟩ ?_
   rintro i h6 ⟨hp,a5⟩
   refine Zs (Zs ?_)
   refine dE (Hl 3 0 56 a5 Hz) ?_
   refine Zt ?_
   refine Zi ((i:Int)<(m.bd.ql.length:Nat)) (λd2=>?_) (λd2=>?_)
   ·have hk:i<m.bd.ql.length:=za
    obtain⟨a1,a2,b5⟩:=aC.isSome (hr _ (a5.drop 8)) za
    have d3:∀ w,St w0 L w -> aC w (some ⟨a1,a2,none⟩) m.bd.ql.length 2 (λq=>bu.cells (m.bd.ql.getD q bG)):=by rw [<- b5];exact hr
    refine Zk (Zt (Zs (Zb (Zs ?_))))
    refine ZD (gE [0,1,2,3,4,5,6,7,8,9,10,11] .done) a5 ?_
    intro d4 a3 h7
    refine kV (Hg 2 (.gen [zL a1 a2 m.bd.ql.length m.bd.qc]) [.cell ⟨z,56,none⟩ (zL a1 a2 m.bd.ql.length m.bd.qc)] (bE (Bp b5 (a3.cell 0 rfl zk)) aR) (Hx 4 (i:Int) (m.bd.ql.length:Int) a1 a2 2 (Hg 6 (.gen [.int .i64 ((m.bd.ql.getD i bG).rp)]) [.cell ⟨a1,a2+(i*2),none⟩ (.int .i64 ((m.bd.ql.getD i bG).rp))] (bE (aC.cV (d3 _ (a3.drop 8)) (k:=i) zo (j:=0) zb zk) aR) (Hl 10 1 0 a3 Hz)))) ?_
    refine Zt ?_
    refine Zi (((m.bd.ql.getD i bG).rp:Int)>x.n) (λd5=>?_) (λd5=>?_)
    ·refine En (Lq (Le (Ll (Ly (E5 (Ll (Ly (Dz ?_))))))))
     refine Jq (v:=.bool false) (v':=.int .i64 1) ?_
     have d6:=((((((a3.pl 7).pl 7).pl 7).pl 7).pl 7).pl 7).pl 7
     have d7:St w0 (LS lp (t+1) x::aB z (aK.cells m) 55::L) d4:=Bd.close hI.mono d6
     have d8:=(d7.pl 0).pl 1
     have d9:=d8.dr 1
     exact⟨false,1,x,rfl,rfl,d9⟩
    ·refine Zk (Zm (Zt ?_))
     refine dE (eT 1 ((i:Nat)+1) Hz) ?_
     exact aS.back (i+1) [0,3,6] zk (by show m.bd.ql.length-(i+1)<m.bd.ql.length-i;omega) ⟨⟨za,λj hj=>(Nat.lt_or_ge j i).elim (hp.2 j) (λh=>by obtain rfl:j=i:=za;omega)⟩,a3⟩
   ·refine Zx (aS.eQ (aS.eR (aS.kI (Zt (Zs (Zs ?_))))))
    refine ZD (gE [0,1,2,3,4,5,6,7,8,9,10,11] .done) a5 ?_
    intro e0 a4 h8
    refine kV (Hl 1 0 1 a4 (Hl 4 0 0 a4 (eT 5 (m.og-1) (Hx 8 ((m.og-1):Int) (11:Int) lp 1 1 (Hg 9 (.gen [.int .u64 (x.kn.toList.getD (Int.toNat (m.og-1)) 0)]) [.cell ⟨lp,1+((Int.toNat (m.og-1))*1),none⟩ (.int .u64 (x.kn.toList.getD (Int.toNat (m.og-1)) 0))] (bE (a4.cell 1 rfl (aP.ry (off:=1) (d:=x.kn) zk za)) aR) Hz))))) ?_
    refine Zt ?_
    refine eZ (t:=(m.nr:Int) != (IntKind.u64.wrap ((x.kn.toList.getD (Int.toNat (m.og-1)) 0)+1))) (λa9=>?_) (λa9=>?_)
    ·have e1:¬ ((m.nr:Int)=(IntKind.u64.wrap ((x.kn.toList.getD (Int.toNat (m.og-1)) 0)+1))):=E2 a9
     refine En (Lq (Le (Ly (Dz ?_))))
     refine Jq (v:=.bool false) (v':=.int .i64 12) ?_
     have e2:=((((((a4.pl 7).pl 7).pl 7).pl 7).pl 7).pl 7).pl 7
     have e3:St w0 (LS lp (t+1) x::aB z (aK.cells m) 55::L) e0:=Bd.close hI.mono e2
     have e4:=(e3.pl 0).pl 1
     have e5:=e4.dr 1
     exact⟨false,12,x,rfl,rfl,e5⟩
    ·have e1:(m.nr:Int)=(IntKind.u64.wrap ((x.kn.toList.getD (Int.toNat (m.og-1)) 0)+1)):=E3 a9
     refine En (Lk (Lt (Ls (Lq (Lb (Dz ?_))))))
     refine aX.loop (T:=Nat) (λgg=>[(0,zP lp 0),(3,zP z 0),(7,.int .i64 (gg:Nat))]) (λgg w=>(gg <= 11) /\ St w0 (aB z (aK.cells m) 55::aB lp (aQ.cells x) 214::Sl x.va x.vc 209 4 aT.cells x.vl::aE cM x.vl::Sl x.wa x.wc 215 1 bD.ptr x.wl::aE cA x.wl::Sl x.ca x.cc 287 1 bT.cells x.cl::aE cF x.cl::L) w) (λgg=>11-gg) 0 [0,3,7] zk ⟨Nat.zero_le _,a4⟩ ?_
     rintro k e6 ⟨h9,b0⟩
     refine En (Ls (Lq (Dz ?_)))
     refine Zi ((k:Int)<11) (λe7=>?_) (λe7=>?_)
     ·refine Zk (Zt (Zs (Zb (Zs ?_))))
      refine ZD (gE [0,1,2,3,4,5,6,7,8,9,10] .done) b0 ?_
      intro e8 a6 i0
      refine kV (Hx 2 (k:Int) (11:Int) z 2 1 (Hg 3 (.gen [.int .u64 (m.dp.toList.getD k 0)]) [.cell ⟨z,2+(k*1),none⟩ (.int .u64 (m.dp.toList.getD k 0))] (bE (a6.cell 0 rfl (aP.ry (off:=2) (d:=m.dp) zk za)) aR) (Hx 8 (k:Int) (11:Int) lp 1 1 (Hg 9 (.gen [.int .u64 (x.kn.toList.getD k 0)]) [.cell ⟨lp,1+(k*1),none⟩ (.int .u64 (x.kn.toList.getD k 0))] (bE (a6.cell 1 rfl (aP.ry (off:=1) (d:=x.kn) zk za)) aR) Hz)))) ?_
      refine Zt ?_
      refine Zi (((m.dp.toList.getD k 0):Int)>(x.kn.toList.getD k 0)) (λe9=>?_) (λe9=>?_)
      ·refine En (Lq (Le (Ll (Ly (E5 (Ll (Ly (Dz ?_))))))))
       refine Jq (v:=.bool false) (v':=.int .i64 12) ?_
       have f0:=((((((a6.pl 7).pl 7).pl 7).pl 7).pl 7).pl 7).pl 7
       have f1:St w0 (LS lp (t+1) x::aB z (aK.cells m) 55::L) e8:=Bd.close hI.mono f0
       have f2:=(f1.pl 0).pl 1
       have f3:=f2.dr 1
       exact⟨false,12,x,rfl,rfl,f3⟩
      ·refine Zk (Zm (Zt ?_))
       refine dE (eT 1 ((k:Nat)+1) Hz) ?_
       exact aS.back (k+1) [0,3,7] zk (by show 11-(k+1)<11-k;omega) ⟨za,a6⟩
     ·refine Zx (aS.eQ (aS.eR (aS.kI (Zt (Zs ?_)))))
      refine dZ [2] (hP 1 0 0 121 (aK.cells m) b0 Hz) ?_
      have f4:=((((((b0.pl 7).pl 7).pl 7).pl 7).pl 7).pl 7).pl 7
      have f5:St w0 (LS lp t x::aB z (aK.cells m) 55::L) e6:=Bd.close hI f4
      refine Zc (wG t x m hm hmay (λh4 i hi=>⟨by have:=(Ac _ 0 (NW (Mw hmay) h4).2 i hi).1;omega,hp.2 i za⟩) za za hlq (λw h=>hr _ (h.drop 1)) f5) ?_
      rintro i1 f6 ⟨b6,u,rfl,f7,f8⟩
      refine Lz (Ls (Dz ?_))
      obtain⟨hJ,f9⟩:=Bd.open f8
      have g0:St w0 (aB lp (aQ.cells u) 214::Sl u.va u.vc 209 4 aT.cells u.vl::aE cM u.vl::Sl u.wa u.wc 215 1 bD.ptr u.wl::aE cA u.wl::Sl u.ca u.cc 287 1 bT.cells u.cl::aE cF u.cl::aB z (aK.cells m) 55::L) f6:=f9
      refine ZD (gE [0,1,2,3,4,5,6,7,8,9,10,11] (.ef 12 .done)) g0 ?_
      intro i2 b1 i3
      refine Zj (Hl 2 7 0 b1 (eT 3 (m.og-1) (Hx 6 ((m.og-1):Int) (11:Int) lp 1 1 (Hg 7 (.gen [.int .u64 (u.kn.toList.getD (Int.toNat (m.og-1)) 0)]) [.cell ⟨lp,1+((Int.toNat (m.og-1))*1),none⟩ (.int .u64 (u.kn.toList.getD (Int.toNat (m.og-1)) 0))] (bE (b1.cell 0 rfl (aP.ry (off:=1) (d:=u.kn) zk za)) aR) (Hx 11 ((m.og-1):Int) (11:Int) lp 1 1 Hz))))) ?_
      refine aL.store rfl rfl zk (b:=lp) (off:=1+((Int.toNat (m.og-1))*1)) (v:=.int .u64 (IntKind.u64.wrap ((u.kn.toList.getD (Int.toNat (m.og-1)) 0)+1))) zk zk (ti:=Tryz.t36) zk b1 0 rfl zk zk (by show 1+((Int.toNat (m.og-1))*1)+1 <= 15;omega) (aQ.Mx u _ za) (L':=(aB lp (aQ.cells (⟨u.n,aP.put u.kn (Int.toNat (m.og-1)) (IntKind.u64.wrap ((u.kn.toList.getD (Int.toNat (m.og-1)) 0)+1)),u.va,u.vc,u.vl,u.wa,u.wc,u.wl,u.ca,u.cc,u.cl⟩:aQ)) 214)::Sl u.va u.vc 209 4 aT.cells u.vl::aE cM u.vl::Sl u.wa u.wc 215 1 bD.ptr u.wl::aE cA u.wl::Sl u.ca u.cc 287 1 bT.cells u.cl::aE cF u.cl::aB z (aK.cells m) 55::L) rfl ?_
      intro g5 g9
      refine Lo (Ld (Lt (Lq (Le (Dz ?_)))))
      refine Jq (v:=.bool b6) (v':=.int .i64 0) ?_
      have h1:St w0 (LS lp (t+1) (⟨u.n,aP.put u.kn (Int.toNat (m.og-1)) (IntKind.u64.wrap ((u.kn.toList.getD (Int.toNat (m.og-1)) 0)+1)),u.va,u.vc,u.vl,u.wa,u.wc,u.wl,u.ca,u.cc,u.cl⟩:aQ)::aB z (aK.cells m) 55::L) g5:=Bd.close hJ g9
      have h2:=(h1.pl 0).pl 1
      have h3:=h2.dr 1
      exact⟨b6,0,(⟨u.n,aP.put u.kn (Int.toNat (m.og-1)) (IntKind.u64.wrap ((u.kn.toList.getD (Int.toNat (m.og-1)) 0)+1)),u.va,u.vc,u.vl,u.wa,u.wc,u.wl,u.ca,u.cc,u.cl⟩:aQ),rfl,f7,h3⟩
end
end Go.Proofs.YthfpmlpoiocfdaaGreatDoor
