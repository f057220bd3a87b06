/-
  Several texts in one: TcM, TdA, TdB, TdC, TdD, TdE, TdF, TdG, TdH, TdI.
-/
import Derived.Test.YtlomlmbbiopaaaaGreatDoorSxT
import Derived.Test.YtlomlmbbiopaaaaGreatDoorGaD
import Derived.Test.YtlomlmbbiopaaaaGreatDoorGaC
namespace Go.Proofs.YtlomlmbbiopaaaaGreatDoor
open Go.RowKit Go.Sx
set_option linter.unusedVariables false
set_option linter.unusedSimpArgs false
set_option linter.unnecessarySimpa false
set_option maxRecDepth 100000
section
variable {w0 w : World} {L : List Asn} {ad : Option Addr} {c : Nat} {az : Option Addr} {cz : Nat} {cb : Nat}
theorem rByteN_spec (Q) (r) (sp) (hQ:∀ w,St w0 L w→Q.holds w) (hq:CutOK Q az r cz) (hs:St w0 ((Cel c #[.slice az r.length cz,.bool sp] 85)::L) w) :
 Cs Tryz.prog 24 #[zP c 0] w fun rv w'=>∃ nn2 rr2 sp2 az2 cz2,rv=.int .u8 (nn2:Nat)∧(byteP (r,sp)=((nn2:Int),(rr2,sp2))∧nn2<256)∧CutOK Q az2 rr2 cz2∧St w0 ((Cel c #[.slice az2 rr2.length cz2,.bool sp2] 85)::L) w':=by
 refine Calls.ret (rByte_spec Q r sp hQ hq hs) ?_
 rintro v w' ⟨vv,rr,a,b,d,e,f,hr,i,o⟩
 exact⟨vv.toNat,rr,a,b,d,by rw [Int.toNat_of_nonneg hr.1];exact e,⟨by rw [Int.toNat_of_nonneg hr.1];exact f,by omega⟩,i,o⟩
theorem tlP_16f {h:HdP}(hd:h.s.dw=16) (hc:(packP h.c).2.1=false):(tlP h).2.1=false:=by
 unfold tlP
 rw [if_neg (by omega),if_pos hd]
 exact hc
theorem packP_f {s s1 s2 s3:CS}{a b:Int}{n:Nat}(h1:byteP s=(a,s1)) (h2:byteP s1=(b,s2)) (h3:byteP (stW s2 11)=((n:Int),s3)) (h4:(msP n s3 []).2.1=false):(packP s).2.1=false:=by
 unfold packP
 simp only [h1,h2,h3,Int.toNat_natCast]
 exact h4
theorem stSet {dw cl wh j kk n tm at_ fr tw:Int}{op:TOp}{bd:TBd}{re:TRe}{pa ma:Option Addr}{pc mc:Nat}{pl:List Int}{ml:List TMs}(f:Nat→Int){k:Nat}(hk:k<11):splice (TSt.cells ⟨dw,cl,wh,j,kk,n,op,bd,⟨fr,tw,vecF f k,ma,mc,ml⟩,tm,re,at_,pa,pc,pl⟩) (90+k) [.int .u64 (f k)]=TSt.cells ⟨dw,cl,wh,j,kk,n,op,bd,⟨fr,tw,vecF f (k+1),ma,mc,ml⟩,tm,re,at_,pa,pc,pl⟩ :=
 match k,hk with
 | 0,_=>by kernel_rfl
 | 1,_=>by kernel_rfl
 | 2,_=>by kernel_rfl
 | 3,_=>by kernel_rfl
 | 4,_=>by kernel_rfl
 | 5,_=>by kernel_rfl
 | 6,_=>by kernel_rfl
 | 7,_=>by kernel_rfl
 | 8,_=>by kernel_rfl
 | 9,_=>by kernel_rfl
 | 10,_=>by kernel_rfl
 | n+11,h=>by omega
theorem get_f {b:List Int}(h:(tlP (hdP b)).2.1=false):getT b=(dSt,5):=if_pos h
theorem get_bad {b r:List Int}{s:TSt}(h:tlP (hdP b)=(s,true,(r,true))):getT b=(dSt,5):=by
 unfold getT
 rw [h]
 rfl
theorem get_ne {b r:List Int}{s:TSt}{p:Bool}(h:tlP (hdP b)=(conS s,true,(r,p))) (hp:putS s≠b):getT b=(dSt,5):=by
 unfold getT
 rw [h]
 unfold finT
 simp only []
 repeat' split
 all_goals first|rfl|(rename_i a;rw [putS_con] at a;exact absurd a hp)
theorem get_nil:getT []=(dSt,5):=by kernel_rfl
theorem get_is {b:List Int}{s:TSt}(hp:putS s=b) (hb:¬ b.length=0) (hs:StOK s) (hm:∀ m∈s.pk.ml,MsOK m):getT b=(conS s,0):=by
 have h:mayS s=true:=Classical.byContradiction fun a=>hb (by rw [← hp,show putS s=[] from if_neg a];rfl)
 rw [← hp]
 exact get_put h hs hm
set_option maxHeartbeats 16000000 in
theorem rgetT_spec (Q) (b) (hQ:∀ w,St w0 L w→Q.holds w) (hq:CutOK Q ad b cb) (hs:St w0 (L) w):Cs Tryz.prog 27 #[.slice ad b.length cb] w fun rv w'=>∃ xx2 ee2,rv=.tuple #[.agg (TSt.cells xx2),.int .i64 ee2]∧getT b=(conS xx2,ee2)∧StOK xx2∧(∀ m∈xx2.pk.ml,MsOK m)∧St w0 ((Sl xx2.pa xx2.pc 5 1 byteC xx2.pl)::(Sl xx2.bd.qa xx2.bd.qc 143 2 TPr.cells xx2.bd.ql)::(Sl xx2.pk.ma xx2.pk.mc 63 121 TMs.cells xx2.pk.ml)::(QS xx2.pk.ml)::L) w':=by
 refine Zen Tryz.func27 Tryz.ntmps27 (En (Ls (Lg [0] (Dz (Zag (TSt.cells dSt) hs fun b1 w2 l6=>Lz (Ls (Lg [2] (Lw (Zbg #[.slice ad b.length cb,.bool false] l6 fun b4 w5 l7=>Lz (Ls (Lg [1,3,4] (Lw (Zc (rByte_spec Q b false (fun w h=>hQ w (h.drop 1)) hq l7) ?_)))))))))))))
 rintro cx cy ⟨i,l8,l9,cz,da,rfl,m0,db,m1,m2⟩
 refine Lo (Lw (Zag (TSt.cells dSt) m2 fun a dc m3=>Lo (Dz (Zu 0 0 (TSt.cells (⟨i,0,0,0,0,0,dOp,dBd,dPk,0,dRe,0,none,0,[]⟩:TSt)) m3 fun dd m4=>Lo (Ld (Lt (Ls (Lg [5] (Lw (GoR.sliceLit rfl (by kernel_rfl) (t:=111) (e:=110) (n:=5) (ps:=[(0,zP a 1),(1,zP a 2),(2,zP a 3),(3,zP a 4),(4,zP a 5)]) (by kernel_rfl) (by kernel_rfl) (ti:=Tryz.t110) (z:=.pointer none) (by kernel_rfl) (by kernel_rfl) (by decide) (by decide) (cs:=#[zP a 1,zP a 2,zP a 3,zP a 4,zP a 5]) (by kernel_rfl) m4 fun x de m5 df=>Lz (Ls (Lq (Lb (Dz (GoC.unroll 6 (En (Ls (Lq (LT (Lk (Lt (Ls (Lb (Dz (ZD (rds [0,1,2,3,4] (.ef 5 (rds [6,7,8] (.ef 9 .done)))) m5 fun dh h1 di=>Zj (Hx 2 (0:Int) (5:Int) x 0 1 (Hl 3 0 0 h1 Hz)) (Zc (rWord_spec Q l8 l9 (fun w h=>hQ w (h.drop 3)) m1 (h1.pl 2)) ?_))))))))))))))))))))))))))
 rintro dj dk ⟨q,m7,m8,dl,dm,rfl,m9,dn,n0,h2⟩
 refine⟨(opl (n:=[.cell ⟨x,0,none⟩ (zP a 1),.prop (0≤(0:Int)∧(0:Int)<(5:Int)),.prop (Value.pointer (some (Addr.add ⟨x,0,none⟩ (Int.toNat 0*1)))=Value.pointer (some ⟨x,0,none⟩))]) (by kernel_rfl) (okc (h2.cell 1 rfl (by kernel_rfl)) (okp (by omega) (okp (ptrAdd _ _ _) ok0)))),(En (Lw (Zu 2 1 (TSt.cells (⟨i,IntKind.i64.wrap (IntKind.u64.wrap (q-1)),0,0,0,0,dOp,dBd,dPk,0,dRe,0,none,0,[]⟩:TSt)) h2 fun dq n1=>Lo (Ld (Lm (Lt (La (Dz (GoQ.again (En (Ls (Lq (LT (Lk (Lt (Ls (Lb (Dz (ZD (rds [0,1,2,3,4] (.ef 5 (rds [6,7,8] (.ef 9 .done)))) n1 fun ds h3 dt=>Zj (Hx 2 (1:Int) (5:Int) x 0 1 (Hl 3 1 1 h3 Hz)) (Zc (rWord_spec Q m7 m8 (fun w h=>hQ w (h.drop 3)) n0 h3) ?_))))))))))))))))))))⟩
 rintro du dv ⟨u,n2,n3,dx,dy,rfl,n4,dz,n5,h4⟩
 refine⟨(opl (n:=[.cell ⟨x,1,none⟩ (zP a 2),.prop (0≤(1:Int)∧(1:Int)<(5:Int)),.prop (Value.pointer (some (Addr.add ⟨x,0,none⟩ (Int.toNat 1*1)))=Value.pointer (some ⟨x,1,none⟩))]) (by kernel_rfl) (okc (h4.cell 1 rfl (by kernel_rfl)) (okp (by omega) (okp (ptrAdd _ _ _) ok0)))),(En (Lw (Zu 2 2 (TSt.cells (⟨i,IntKind.i64.wrap (IntKind.u64.wrap (q-1)),IntKind.i64.wrap (IntKind.u64.wrap (u-1)),0,0,0,dOp,dBd,dPk,0,dRe,0,none,0,[]⟩:TSt)) h4 fun ea n6=>Lo (Ld (Lm (Lt (La (Dz (GoQ.again (En (Ls (Lq (LT (Lk (Lt (Ls (Lb (Dz (ZD (rds [0,1,2,3,4] (.ef 5 (rds [6,7,8] (.ef 9 .done)))) n6 fun eb h5 ec=>Zj (Hx 2 (2:Int) (5:Int) x 0 1 (Hl 3 1 2 h5 Hz)) (Zc (rWord_spec Q n2 n3 (fun w h=>hQ w (h.drop 3)) n5 h5) ?_))))))))))))))))))))⟩
 rintro ed ee ⟨a0,n7,n8,eg,eh,rfl,n9,ei,o0,h6⟩
 refine⟨(opl (n:=[.cell ⟨x,2,none⟩ (zP a 3),.prop (0≤(2:Int)∧(2:Int)<(5:Int)),.prop (Value.pointer (some (Addr.add ⟨x,0,none⟩ (Int.toNat 2*1)))=Value.pointer (some ⟨x,2,none⟩))]) (by kernel_rfl) (okc (h6.cell 1 rfl (by kernel_rfl)) (okp (by omega) (okp (ptrAdd _ _ _) ok0)))),(En (Lw (Zu 2 3 (TSt.cells (⟨i,IntKind.i64.wrap (IntKind.u64.wrap (q-1)),IntKind.i64.wrap (IntKind.u64.wrap (u-1)),IntKind.i64.wrap (IntKind.u64.wrap (a0-1)),0,0,dOp,dBd,dPk,0,dRe,0,none,0,[]⟩:TSt)) h6 fun ej o1=>Lo (Ld (Lm (Lt (La (Dz (GoQ.again (En (Ls (Lq (LT (Lk (Lt (Ls (Lb (Dz (ZD (rds [0,1,2,3,4] (.ef 5 (rds [6,7,8] (.ef 9 .done)))) o1 fun ek h7 el=>Zj (Hx 2 (3:Int) (5:Int) x 0 1 (Hl 3 1 3 h7 Hz)) (Zc (rWord_spec Q n7 n8 (fun w h=>hQ w (h.drop 3)) o0 h7) ?_))))))))))))))))))))⟩
 rintro em en ⟨a1,o2,o3,eo,ep,rfl,o4,es,o5,i0⟩
 refine⟨(opl (n:=[.cell ⟨x,3,none⟩ (zP a 4),.prop (0≤(3:Int)∧(3:Int)<(5:Int)),.prop (Value.pointer (some (Addr.add ⟨x,0,none⟩ (Int.toNat 3*1)))=Value.pointer (some ⟨x,3,none⟩))]) (by kernel_rfl) (okc (i0.cell 1 rfl (by kernel_rfl)) (okp (by omega) (okp (ptrAdd _ _ _) ok0)))),(En (Lw (Zu 2 4 (TSt.cells (⟨i,IntKind.i64.wrap (IntKind.u64.wrap (q-1)),IntKind.i64.wrap (IntKind.u64.wrap (u-1)),IntKind.i64.wrap (IntKind.u64.wrap (a0-1)),IntKind.i64.wrap (IntKind.u64.wrap (a1-1)),0,dOp,dBd,dPk,0,dRe,0,none,0,[]⟩:TSt)) i0 fun et o6=>Lo (Ld (Lm (Lt (La (Dz (GoQ.again (En (Ls (Lq (LT (Lk (Lt (Ls (Lb (Dz (ZD (rds [0,1,2,3,4] (.ef 5 (rds [6,7,8] (.ef 9 .done)))) o6 fun eu i1 ev=>Zj (Hx 2 (4:Int) (5:Int) x 0 1 (Hl 3 1 4 i1 Hz)) (Zc (rWord_spec Q o2 o3 (fun w h=>hQ w (h.drop 3)) o5 i1) ?_))))))))))))))))))))⟩
 rintro ew ex ⟨a2,o7,o8,ey,ez,rfl,o9,fa,p0,i2⟩
 refine⟨(opl (n:=[.cell ⟨x,4,none⟩ (zP a 5),.prop (0≤(4:Int)∧(4:Int)<(5:Int)),.prop (Value.pointer (some (Addr.add ⟨x,0,none⟩ (Int.toNat 4*1)))=Value.pointer (some ⟨x,4,none⟩))]) (by kernel_rfl) (okc (i2.cell 1 rfl (by kernel_rfl)) (okp (by omega) (okp (ptrAdd _ _ _) ok0)))),(En (Lw (Zu 2 5 (TSt.cells (⟨i,IntKind.i64.wrap (IntKind.u64.wrap (q-1)),IntKind.i64.wrap (IntKind.u64.wrap (u-1)),IntKind.i64.wrap (IntKind.u64.wrap (a0-1)),IntKind.i64.wrap (IntKind.u64.wrap (a1-1)),IntKind.i64.wrap (IntKind.u64.wrap (a2-1)),dOp,dBd,dPk,0,dRe,0,none,0,[]⟩:TSt)) i2 fun fb p1=>Lo (Ld (Lm (Lt (La (Dz (GoQ.again (En (Ls (Lq (LF (Lx (LsC (LsL (Lh (Lt (Ls (Lg [1,4] (Lw (Zc (rByte_spec Q o7 o8 (fun w h=>hQ w (h.drop 3)) p0 p1) ?_))))))))))))))))))))))⟩
 rintro fc fd ⟨a4,p2,p3,fe,ff,rfl,p4,fg,p5,p6⟩
 refine Lo (Lw (Zu 2 6 (TSt.cells (⟨i,IntKind.i64.wrap (IntKind.u64.wrap (q-1)),IntKind.i64.wrap (IntKind.u64.wrap (u-1)),IntKind.i64.wrap (IntKind.u64.wrap (a0-1)),IntKind.i64.wrap (IntKind.u64.wrap (a1-1)),IntKind.i64.wrap (IntKind.u64.wrap (a2-1)),(⟨a4,(⟨#[]⟩:ByteArray),(⟨#[]⟩:ByteArray),(⟨#[]⟩:ByteArray),(⟨#[]⟩:ByteArray),0⟩:TOp),dBd,dPk,0,dRe,0,none,0,[]⟩:TSt)) p6 fun fh p7=>Lo (Ld (Lt (Ls (Lg [1,4] (Lw (Zc (rWord_spec Q p2 p3 (fun w h=>hQ w (h.drop 3)) p5 p7) ?_))))))))
 rintro fi fj ⟨a5,p8,p9,fk,fl,rfl,q0,fm,q1,q2⟩
 refine Lo (Lw (Zu 2 11 (TSt.cells (⟨i,IntKind.i64.wrap (IntKind.u64.wrap (q-1)),IntKind.i64.wrap (IntKind.u64.wrap (u-1)),IntKind.i64.wrap (IntKind.u64.wrap (a0-1)),IntKind.i64.wrap (IntKind.u64.wrap (a1-1)),IntKind.i64.wrap (IntKind.u64.wrap (a2-1)),(⟨a4,(⟨#[]⟩:ByteArray),(⟨#[]⟩:ByteArray),(⟨#[]⟩:ByteArray),(⟨#[]⟩:ByteArray),a5⟩:TOp),dBd,dPk,0,dRe,0,none,0,[]⟩:TSt)) q2 fun fo q3=>Lo (Ld (Lt (Ls (Lg [1,4] (Lw (Zc (rText_spec Q p8 p9 255 (fun w h=>hQ w (h.drop 3)) q1 q3) ?_))))))))
 rintro fp fq ⟨a6,q4,q5,fs,ft,rfl,q6,q7,q8⟩
 refine Lo (Lw (Zu 2 7 (TSt.cells (⟨i,IntKind.i64.wrap (IntKind.u64.wrap (q-1)),IntKind.i64.wrap (IntKind.u64.wrap (u-1)),IntKind.i64.wrap (IntKind.u64.wrap (a0-1)),IntKind.i64.wrap (IntKind.u64.wrap (a1-1)),IntKind.i64.wrap (IntKind.u64.wrap (a2-1)),(⟨a4,a6,(⟨#[]⟩:ByteArray),(⟨#[]⟩:ByteArray),(⟨#[]⟩:ByteArray),a5⟩:TOp),dBd,dPk,0,dRe,0,none,0,[]⟩:TSt)) q8 fun fu q9=>Lo (Ld (Lt (Ls (Lg [1,4] (Lw (Zc (rText_spec Q q4 q5 255 (fun w h=>hQ w (h.drop 3)) q7 q9) ?_))))))))
 rintro fv fw ⟨a7,r0,r4,fx,fy,rfl,r5,r6,r7⟩
 refine Lo (Lw (Zu 2 8 (TSt.cells (⟨i,IntKind.i64.wrap (IntKind.u64.wrap (q-1)),IntKind.i64.wrap (IntKind.u64.wrap (u-1)),IntKind.i64.wrap (IntKind.u64.wrap (a0-1)),IntKind.i64.wrap (IntKind.u64.wrap (a1-1)),IntKind.i64.wrap (IntKind.u64.wrap (a2-1)),(⟨a4,a6,a7,(⟨#[]⟩:ByteArray),(⟨#[]⟩:ByteArray),a5⟩:TOp),dBd,dPk,0,dRe,0,none,0,[]⟩:TSt)) r7 fun ga r8=>Lo (Ld (Lt (Ls (Lg [1,4] (Lw (Zc (rText_spec Q r0 r4 255 (fun w h=>hQ w (h.drop 3)) r6 r8) ?_))))))))
 rintro gb gc ⟨b2,r9,s0,gd,ge,rfl,s1,s3,s4⟩
 refine Lo (Lw (Zu 2 9 (TSt.cells (⟨i,IntKind.i64.wrap (IntKind.u64.wrap (q-1)),IntKind.i64.wrap (IntKind.u64.wrap (u-1)),IntKind.i64.wrap (IntKind.u64.wrap (a0-1)),IntKind.i64.wrap (IntKind.u64.wrap (a1-1)),IntKind.i64.wrap (IntKind.u64.wrap (a2-1)),(⟨a4,a6,a7,b2,(⟨#[]⟩:ByteArray),a5⟩:TOp),dBd,dPk,0,dRe,0,none,0,[]⟩:TSt)) s4 fun gf s5=>Lo (Ld (Lt (Ls (Lg [1,4] (Lw (Zc (rText_spec Q r9 s0 255 (fun w h=>hQ w (h.drop 3)) s3 s5) ?_))))))))
 rintro gh gi ⟨b3,s6,s7,gj,gk,rfl,s8,s9,t0⟩
 refine Lo (Lw (Zu 2 10 (TSt.cells (⟨i,IntKind.i64.wrap (IntKind.u64.wrap (q-1)),IntKind.i64.wrap (IntKind.u64.wrap (u-1)),IntKind.i64.wrap (IntKind.u64.wrap (a0-1)),IntKind.i64.wrap (IntKind.u64.wrap (a1-1)),IntKind.i64.wrap (IntKind.u64.wrap (a2-1)),(⟨a4,a6,a7,b2,b3,a5⟩:TOp),dBd,dPk,0,dRe,0,none,0,[]⟩:TSt)) t0 fun gl t1=>Lo (Ld (Lt (Ls (Lg [1,3] (Lw (Zc (rWord_spec Q s6 s7 (fun w h=>hQ w (h.drop 3)) s9 t1) ?_))))))))
 rintro gm gn ⟨b5,t2,t3,go,gp,rfl,t4,gq,t5,t6⟩
 refine Lo (Lw (Zu 2 102 (TSt.cells (⟨i,IntKind.i64.wrap (IntKind.u64.wrap (q-1)),IntKind.i64.wrap (IntKind.u64.wrap (u-1)),IntKind.i64.wrap (IntKind.u64.wrap (a0-1)),IntKind.i64.wrap (IntKind.u64.wrap (a1-1)),IntKind.i64.wrap (IntKind.u64.wrap (a2-1)),(⟨a4,a6,a7,b2,b3,a5⟩:TOp),dBd,dPk,b5,dRe,0,none,0,[]⟩:TSt)) t6 fun gr t7=>Lo (Ld (Lt (Ls (Lg [1,3] (Lw (Zc (rWord_spec Q t2 t3 (fun w h=>hQ w (h.drop 3)) t5 t7) ?_))))))))
 rintro gs gt ⟨b6,t8,t9,gu,gv,rfl,u0,gw,u1,u2⟩
 refine Lo (Lw (Zu 2 105 (TSt.cells (⟨i,IntKind.i64.wrap (IntKind.u64.wrap (q-1)),IntKind.i64.wrap (IntKind.u64.wrap (u-1)),IntKind.i64.wrap (IntKind.u64.wrap (a0-1)),IntKind.i64.wrap (IntKind.u64.wrap (a1-1)),IntKind.i64.wrap (IntKind.u64.wrap (a2-1)),(⟨a4,a6,a7,b2,b3,a5⟩:TOp),dBd,dPk,b5,dRe,b6,none,0,[]⟩:TSt)) u2 fun gx u3=>Lo (Ld (Lt (Ls (Lg [1,5] (Lw (Zc (rByte_spec Q t8 t9 (fun w h=>hQ w (h.drop 3)) u1 u3) ?_))))))))
 rintro gy gz ⟨b7,u4,u5,ha,hb,rfl,u6,hc,u7,u8⟩
 refine Zoj (Hwi 2 b7 Hz) (Zu 2 103 (TSt.cells (⟨i,IntKind.i64.wrap (IntKind.u64.wrap (q-1)),IntKind.i64.wrap (IntKind.u64.wrap (u-1)),IntKind.i64.wrap (IntKind.u64.wrap (a0-1)),IntKind.i64.wrap (IntKind.u64.wrap (a1-1)),IntKind.i64.wrap (IntKind.u64.wrap (a2-1)),(⟨a4,a6,a7,b2,b3,a5⟩:TOp),dBd,dPk,b5,(⟨b7,(⟨#[]⟩:ByteArray)⟩:TRe),b6,none,0,[]⟩:TSt)) u8 fun hd u9=>Lo (Ld (Lt (Ls (Lg [1,4] (Lw (Zc (rText_spec Q u4 u5 255 (fun w h=>hQ w (h.drop 3)) u7 u9) ?_)))))))
 rintro he hg ⟨b8,v0,v1,hi,hj,rfl,v2,v3,v4⟩
 refine Lo (Lw (Zu 2 104 (TSt.cells (⟨i,IntKind.i64.wrap (IntKind.u64.wrap (q-1)),IntKind.i64.wrap (IntKind.u64.wrap (u-1)),IntKind.i64.wrap (IntKind.u64.wrap (a0-1)),IntKind.i64.wrap (IntKind.u64.wrap (a1-1)),IntKind.i64.wrap (IntKind.u64.wrap (a2-1)),(⟨a4,a6,a7,b2,b3,a5⟩:TOp),dBd,dPk,b5,(⟨b7,b8⟩:TRe),b6,none,0,[]⟩:TSt)) v4 fun hl v5=>Lo (Ld (Lt (Ls (Lg [2,4,6] (Lw (Zqa (f:=24) (args:=#[zP b4 0]) Tryz.call24 (rByteN_spec Q v0 v1 (fun w h=>hQ w (h.drop 3)) v3 v5) ?_))))))))
 rintro hn ho ⟨d4,e3,e4,hr,hu,rfl,v6,e5,v7⟩
 refine Zoj (Hwi 3 (d4:Nat) Hz) (Zc (rRaw_spec Q e3 e4 d4 (fun w h=>hQ w (h.drop 3)) e5 v7) ?_)
 rintro hv hw ⟨a8,a9,a3,c7,c8,i3,i4,rfl,e6,f2,v8⟩
 refine Lo (Lw (Zu 3 106 (TSt.cells (⟨i,IntKind.i64.wrap (IntKind.u64.wrap (q-1)),IntKind.i64.wrap (IntKind.u64.wrap (u-1)),IntKind.i64.wrap (IntKind.u64.wrap (a0-1)),IntKind.i64.wrap (IntKind.u64.wrap (a1-1)),IntKind.i64.wrap (IntKind.u64.wrap (a2-1)),(⟨a4,a6,a7,b2,b3,a5⟩:TOp),dBd,dPk,b5,(⟨b7,b8⟩:TRe),b6,a8,a9,a3⟩:TSt)) v8 fun v9 d5=>Lo (Ld (Lt (Lq (Ls (Dz (GoC.join2 (T:=TSt×(List Int)×Bool×(Option Addr)×Nat×Bool) (E:=fun gg=>[(0,.slice ad b.length cb),(2,zP b1 0),(3,.int .i64 0),(4,zP b4 0),(5,zP a 0),(8,.bool gg.2.2.2.2.2)]) (F:=fun gg w=>(StOK gg.1∧(∀ m∈gg.1.pk.ml,MsOK m)∧(gg.2.2.2.2.2=true→tlP (hdP b)=(conS gg.1,(true,(gg.2.1,gg.2.2.1))))∧(gg.2.2.2.2.2=false→(tlP (hdP b)).2.1=false)∧CutOK Q gg.2.2.2.1 gg.2.1 gg.2.2.2.2.1)∧St w0 ((Sl gg.1.pa gg.1.pc 5 1 byteC gg.1.pl)::(Sl gg.1.bd.qa gg.1.bd.qc 143 2 TPr.cells gg.1.bd.ql)::(Sl gg.1.pk.ma gg.1.pk.mc 63 121 TMs.cells gg.1.pk.ml)::(QS gg.1.pk.ml)::(Cel a (TSt.cells gg.1) 47)::(Cel b4 #[.slice gg.2.2.2.1 gg.2.1.length gg.2.2.2.2.1,.bool gg.2.2.1] 85)::(Cel b1 (TSt.cells dSt) 47)::L) w) ?_ ?_))))))))
 ·refine Zs ?_
  have hh:hdP b=⟨(⟨i,IntKind.i64.wrap (IntKind.u64.wrap (q-1)),IntKind.i64.wrap (IntKind.u64.wrap (u-1)),IntKind.i64.wrap (IntKind.u64.wrap (a0-1)),IntKind.i64.wrap (IntKind.u64.wrap (a1-1)),IntKind.i64.wrap (IntKind.u64.wrap (a2-1)),(⟨a4,a6,a7,b2,b3,a5⟩:TOp),dBd,dPk,b5,(⟨b7,b8⟩:TRe),b6,none,0,a3⟩:TSt),(c7,c8)⟩:=by
   unfold hdP
   simp only [m0,m9,n4,n9,o4,o9,p4,q0,q6,r5,s1,s8,t4,u0,u6,v2,v6.1,e6,Int.toNat_natCast]
   rfl
  refine Zaj (Hl 1 3 0 d5 Hz) (Zt (Zqc (t:=(i:Int) == 14) (fun f3=>?_) (fun f3=>?_)))
  ·have f4:=ieqT f3
   refine En (Ls (Lg [1,5,6] (Lw (Zc (rmessage_spec Q c7 c8 (fun w h=>hQ w (h.drop 4)) f2 (d5.pl 1)) ?_))))
   rintro hx hy ⟨d1,d6,d7,d8,i5,i6,rfl,w3,w4,w6,w7⟩
   refine Lo (Lw (Zag (TMs.cells dMs) w7 fun w8 hz w9=>Lo (Dz (Zu 0 0 (TMs.cells d1) w9 fun ia i7=>Lz (Ls (Dz (Zgj [3] (Hla 1 0 13 76 (TBd.cells d1.bd) i7 Hz) (Zu 5 12 (TSt.cells (⟨i,IntKind.i64.wrap (IntKind.u64.wrap (q-1)),IntKind.i64.wrap (IntKind.u64.wrap (u-1)),IntKind.i64.wrap (IntKind.u64.wrap (a0-1)),IntKind.i64.wrap (IntKind.u64.wrap (a1-1)),IntKind.i64.wrap (IntKind.u64.wrap (a2-1)),(⟨a4,a6,a7,b2,b3,a5⟩:TOp),d1.bd,dPk,b5,(⟨b7,b8⟩:TRe),b6,a8,a9,a3⟩:TSt)) i7 fun x0 i8=>Lo (Ld (Lt (La (Lt (Ls (Dz (Zaj (Hl 1 5 0 i8 Hz) (Zt (Zqc (t:=(i:Int) == 16) (fun f5=>?_) (fun f5=>?_))))))))))))))))))
   ·have x1:=ieqT f5
    exfalso;omega
   ·refine Zk ?_
    have x2:=St.slNil i8 63 121 TMs.cells
    have x3:=St.addNothing x2
    obtain⟨xx,hxx⟩:∃ s:TSt,s=(⟨i,IntKind.i64.wrap (IntKind.u64.wrap (q-1)),IntKind.i64.wrap (IntKind.u64.wrap (u-1)),IntKind.i64.wrap (IntKind.u64.wrap (a0-1)),IntKind.i64.wrap (IntKind.u64.wrap (a1-1)),IntKind.i64.wrap (IntKind.u64.wrap (a2-1)),(⟨a4,a6,a7,b2,b3,a5⟩:TOp),d1.bd,dPk,b5,(⟨b7,b8⟩:TRe),b6,a8,a9,a3⟩:TSt):=⟨_,rfl⟩
    have i9:St w0 ((QS xx.pk.ml)::(Sl xx.pk.ma xx.pk.mc 63 121 TMs.cells xx.pk.ml)::(Cel w8 (TMs.cells d1) 63)::(Sl xx.bd.qa xx.bd.qc 143 2 TPr.cells xx.bd.ql)::(Cel b4 #[.slice i5 d7.length i6,.bool d8] 85)::(Sl xx.pa xx.pc 5 1 byteC xx.pl)::(Cel x #[zP a 1,zP a 2,zP a 3,zP a 4,zP a 5] 110)::(Cel a (TSt.cells xx) 47)::(Cel b1 (TSt.cells dSt) 47)::L) x0:=(by rw [hxx];exact x3)
    have hpb:∀ z∈a3,0≤z∧z<256:=by have o:=tk_byt (n:=d4) (s:=(e3,e4)) e5.byt;rw [e6] at o;exact o
    have hxo:StOK xx:=by
     have o:=i9.slNone 5 rfl
     rw [hxx] at o ⊢
     exact⟨(by dsimp only;omega),i64wrap_rng _,i64wrap_rng _,i64wrap_rng _,i64wrap_rng _,i64wrap_rng _,(by dsimp only;omega),(by dsimp only;omega),w4.bd,dVc_ok,(by dsimp only;omega),(by dsimp only;omega),hpb,o⟩
    have d9:tlP (hdP b)=(conS xx,(d6,(d7,d8))):=by
     have h8:=tlP_14 (h:=hdP b) (m:=conM d1) (ok:=d6) (c:=(d7,d8)) (by rw [hh];exact f4) (by rw [hh];exact w3)
     rw [h8,hh,hxx]
     rfl
    have ht:d6=true→tlP (hdP b)=(conS xx,(true,(d7,d8))):=fun o=>by rw [d9,o]
    have htf:d6=false→(tlP (hdP b)).2.1=false:=fun o=>by rw [d9];exact o
    have hxm:∀ m∈xx.pk.ml,MsOK m:=by rw [hxx];intro m hm;cases hm
    have x4:=(((((((((i9.pl 8).pl 5).pl 8).pl 3).pl 4).pl 6).pl 7).pl 8).pl 8)
    exact Zme [0,2,3,4,5,8] (xx,d7,d8,i5,i6,d6) ⟨⟨hxo,hxm,ht,htf,w6⟩,(x4.dr 2)⟩
  ·have f4:=ieqF f3
   refine Zk (Zt (Zs (Zaj (Hl 1 3 0 d5 Hz) (Zt (Zqc (t:=(i:Int) == 16) (fun f6=>?_) (fun f6=>?_))))))
   ·have e7:=ieqT f6
    refine En (Ls (Lg [1,5] (Lw (Zc (rByte_spec Q c7 c8 (fun w h=>hQ w (h.drop 4)) f2 (d5.pl 1)) ?_))))
    rintro ic id ⟨c1,x7,x8,ie,ig,rfl,j0,ih,x9,y0⟩
    refine Zoj (Hwi 2 c1 Hz) (Zu 3 88 (TSt.cells (⟨i,IntKind.i64.wrap (IntKind.u64.wrap (q-1)),IntKind.i64.wrap (IntKind.u64.wrap (u-1)),IntKind.i64.wrap (IntKind.u64.wrap (a0-1)),IntKind.i64.wrap (IntKind.u64.wrap (a1-1)),IntKind.i64.wrap (IntKind.u64.wrap (a2-1)),(⟨a4,a6,a7,b2,b3,a5⟩:TOp),dBd,(⟨c1,0,dVc,none,0,[]⟩:TPk),b5,(⟨b7,b8⟩:TRe),b6,a8,a9,a3⟩:TSt)) y0 fun ij y1=>Lo (Ld (Lt (Ls (Lg [1,5] (Lw (Zc (rByte_spec Q x7 x8 (fun w h=>hQ w (h.drop 4)) x9 y1) ?_)))))))
    rintro ik il ⟨c3,b9,c0,j1,j2,rfl,j3,io,y2,y3⟩
    refine Zoj (Hwi 2 c3 Hz) (Zu 3 89 (TSt.cells (⟨i,IntKind.i64.wrap (IntKind.u64.wrap (q-1)),IntKind.i64.wrap (IntKind.u64.wrap (u-1)),IntKind.i64.wrap (IntKind.u64.wrap (a0-1)),IntKind.i64.wrap (IntKind.u64.wrap (a1-1)),IntKind.i64.wrap (IntKind.u64.wrap (a2-1)),(⟨a4,a6,a7,b2,b3,a5⟩:TOp),dBd,(⟨c1,c3,dVc,none,0,[]⟩:TPk),b5,(⟨b7,b8⟩:TRe),b6,a8,a9,a3⟩:TSt)) y3 fun y4 y5=>Lo (Ld (Lt (Ls (Lq (Lb (Dz ?_)))))))
    have y6:=((y5.pl 3).pl 1)
    have y7:St w0 ((Cel b4 #[.slice j1 b9.length j2,.bool c0] 85)::(Cel a (TSt.cells (⟨i,IntKind.i64.wrap (IntKind.u64.wrap (q-1)),IntKind.i64.wrap (IntKind.u64.wrap (u-1)),IntKind.i64.wrap (IntKind.u64.wrap (a0-1)),IntKind.i64.wrap (IntKind.u64.wrap (a1-1)),IntKind.i64.wrap (IntKind.u64.wrap (a2-1)),(⟨a4,a6,a7,b2,b3,a5⟩:TOp),dBd,(⟨c1,c3,(vecF (valW (b9,c0)) 0),none,0,[]⟩:TPk),b5,(⟨b7,b8⟩:TRe),b6,a8,a9,a3⟩:TSt)) 47)::(Sl a8 a9 5 1 byteC a3)::(Cel x #[zP a 1,zP a 2,zP a 3,zP a 4,zP a 5] 110)::(Cel b1 (TSt.cells dSt) 47)::L) y4:=(by rw [vec_z];exact y6)
    refine GoC.loop (T:=Nat×(List Int)×Bool×(Option Addr)×Nat) (fun gg=>[(0,.slice ad b.length cb),(2,zP b1 0),(3,.int .i64 0),(4,zP b4 0),(5,zP a 0),(8,.bool true),(11,.int .i64 (gg.1:Nat))]) (fun gg w=>(gg.1≤11∧(gg.2.1,gg.2.2.1)=stW (b9,c0) gg.1∧CutOK Q gg.2.2.2.1 gg.2.1 gg.2.2.2.2)∧St w0 ((Cel b4 #[.slice gg.2.2.2.1 gg.2.1.length gg.2.2.2.2,.bool gg.2.2.1] 85)::(Cel a (TSt.cells (⟨i,IntKind.i64.wrap (IntKind.u64.wrap (q-1)),IntKind.i64.wrap (IntKind.u64.wrap (u-1)),IntKind.i64.wrap (IntKind.u64.wrap (a0-1)),IntKind.i64.wrap (IntKind.u64.wrap (a1-1)),IntKind.i64.wrap (IntKind.u64.wrap (a2-1)),(⟨a4,a6,a7,b2,b3,a5⟩:TOp),dBd,(⟨c1,c3,(vecF (valW (b9,c0)) gg.1),none,0,[]⟩:TPk),b5,(⟨b7,b8⟩:TRe),b6,a8,a9,a3⟩:TSt)) 47)::(Sl a8 a9 5 1 byteC a3)::(Cel x #[zP a 1,zP a 2,zP a 3,zP a 4,zP a 5] 110)::(Cel b1 (TSt.cells dSt) 47)::L) w) (fun gg=>11-gg.1) (0,b9,c0,j1,j2) [0,2,3,4,5,8,11] (by kernel_rfl) ⟨⟨Nat.zero_le _,rfl,y2⟩,y7⟩ ?_
    rintro⟨kk,j4,j5,ip,iq⟩ ir ⟨hp,f7⟩
    dsimp only at hp f7
    refine En (Ls (Lq (Dz (Zi ((kk:Int)<11) (fun y8=>?_) (fun y8=>?_)))))
    ·have hk:kk<11:=by omega
     refine En (Lk (Lt (Ls (Lb (Lg [2,6] (Lw (Zc (rWord_spec Q j4 j5 (fun w h=>hQ w (h.drop 4)) hp.2.2 f7) ?_)))))))
     rintro it iu ⟨j6,j7,j8,j9,k0,rfl,k1,iv,y9,z0⟩
     refine Zoj (Hx 5 (kk:Int) (11:Int) a 90 1 Hz) ?_
     have hvk:valW (b9,c0) kk=j6:=by show(wordP (stW _ kk)).1=_;rw [← hp.2.1,k1]
     exact GoR.store rfl rfl (by kernel_rfl) (b:=a) (off:=90+(kk*1)) (v:=.int .u64 j6) (by kernel_rfl) (by kernel_rfl) (ti:=Tryz.t29) (by kernel_rfl) z0 1 rfl (by kernel_rfl) (by kernel_rfl) (by show 90+(kk*1)+1≤107;omega) (cs':=TSt.cells (⟨i,IntKind.i64.wrap (IntKind.u64.wrap (q-1)),IntKind.i64.wrap (IntKind.u64.wrap (u-1)),IntKind.i64.wrap (IntKind.u64.wrap (a0-1)),IntKind.i64.wrap (IntKind.u64.wrap (a1-1)),IntKind.i64.wrap (IntKind.u64.wrap (a2-1)),(⟨a4,a6,a7,b2,b3,a5⟩:TOp),dBd,(⟨c1,c3,(vecF (valW (b9,c0)) (kk+1)),none,0,[]⟩:TPk),b5,(⟨b7,b8⟩:TRe),b6,a8,a9,a3⟩:TSt)) (L':=(Cel b4 #[.slice j9 j7.length k0,.bool j8] 85)::(Cel a (TSt.cells (⟨i,IntKind.i64.wrap (IntKind.u64.wrap (q-1)),IntKind.i64.wrap (IntKind.u64.wrap (u-1)),IntKind.i64.wrap (IntKind.u64.wrap (a0-1)),IntKind.i64.wrap (IntKind.u64.wrap (a1-1)),IntKind.i64.wrap (IntKind.u64.wrap (a2-1)),(⟨a4,a6,a7,b2,b3,a5⟩:TOp),dBd,(⟨c1,c3,(vecF (valW (b9,c0)) (kk+1)),none,0,[]⟩:TPk),b5,(⟨b7,b8⟩:TRe),b6,a8,a9,a3⟩:TSt)) 47)::(Sl a8 a9 5 1 byteC a3)::(Cel x #[zP a 1,zP a 2,zP a 3,zP a 4,zP a 5] 110)::(Cel b1 (TSt.cells dSt) 47)::L) (by rw [Nat.mul_one,← hvk];exact stSet _ hk) rfl fun iw z1=>Lo (Ld (Lm (Lt (Dz (Zaj (Hwi 1 ((kk:Nat)+1) Hz) (GoQ.back (kk+1,j7,j8,j9,k0) [0,2,3,4,5,8,11] (by kernel_rfl) (by show 11-(kk+1)<11-kk;omega) ⟨⟨by omega,by show _=(wordP (stW _ kk)).2;rw [← hp.2.1,k1],y9⟩,z1⟩))))))
    ·have hke:kk=11:=by omega
     subst hke
     have hst:=hp.2.1
     refine En (Lx (LsC (LsL (Lh (Lt (Ls (Lg [1] (Lw (Zqa (f:=24) (args:=#[zP b4 0]) Tryz.call24 (rByteN_spec Q j4 j5 (fun w h=>hQ w (h.drop 4)) hp.2.2 f7) ?_)))))))))
     rintro iy z2 ⟨b0,e8,e9,k2,k3,rfl,k4,z3,z4⟩
     refine Zojd (Hwi 2 (b0:Nat) Hz) (En (Lt (Lq (Lb (Dz ?_)))))
     have z5:=St.slNil z4 63 121 TMs.cells
     have z6:=St.addNothing z5
     have z7:=((((z6.pl 2).pl 3).pl 2).pl 3)
     have z8:St w0 ((Sl none 0 63 121 TMs.cells ([]:List TMs))::(QS ([]:List TMs))::(Cel a (TSt.cells (⟨i,IntKind.i64.wrap (IntKind.u64.wrap (q-1)),IntKind.i64.wrap (IntKind.u64.wrap (u-1)),IntKind.i64.wrap (IntKind.u64.wrap (a0-1)),IntKind.i64.wrap (IntKind.u64.wrap (a1-1)),IntKind.i64.wrap (IntKind.u64.wrap (a2-1)),(⟨a4,a6,a7,b2,b3,a5⟩:TOp),dBd,(⟨c1,c3,(vecF (valW (b9,c0)) 11),none,0,([]:List TMs)⟩:TPk),b5,(⟨b7,b8⟩:TRe),b6,a8,a9,a3⟩:TSt)) 47)::(Cel b4 #[.slice k2 e8.length k3,.bool e9] 85)::(Sl a8 a9 5 1 byteC a3)::(Cel x #[zP a 1,zP a 2,zP a 3,zP a 4,zP a 5] 110)::(Cel b1 (TSt.cells dSt) 47)::L) z2:=z7
     refine GoC.loop (T:=Nat×Bool×(List Int)×Bool×(Option Addr)×Nat×(Option Addr)×Nat×(List TMs)) (fun gg=>[(0,.slice ad b.length cb),(2,zP b1 0),(3,.int .i64 0),(4,zP b4 0),(5,zP a 0),(8,.bool gg.2.1),(12,.int .i64 (b0:Nat)),(13,.int .i64 (gg.1:Nat))]) (fun gg w=>(gg.1≤b0∧(gg.2.1=true→msP b0 (e8,e9) []=msP (b0-gg.1) (gg.2.2.1,gg.2.2.2.1) (gg.2.2.2.2.2.2.2.2.map conM))∧(gg.2.1=false→(msP b0 (e8,e9) []).2.1=false)∧CutOK Q gg.2.2.2.2.1 gg.2.2.1 gg.2.2.2.2.2.1∧(∀ m∈gg.2.2.2.2.2.2.2.2,MsOK m)∧gg.2.2.2.2.2.2.2.2.length≤gg.1)∧St w0 ((Sl gg.2.2.2.2.2.2.1 gg.2.2.2.2.2.2.2.1 63 121 TMs.cells gg.2.2.2.2.2.2.2.2)::(QS gg.2.2.2.2.2.2.2.2)::(Cel a (TSt.cells (⟨i,IntKind.i64.wrap (IntKind.u64.wrap (q-1)),IntKind.i64.wrap (IntKind.u64.wrap (u-1)),IntKind.i64.wrap (IntKind.u64.wrap (a0-1)),IntKind.i64.wrap (IntKind.u64.wrap (a1-1)),IntKind.i64.wrap (IntKind.u64.wrap (a2-1)),(⟨a4,a6,a7,b2,b3,a5⟩:TOp),dBd,(⟨c1,c3,(vecF (valW (b9,c0)) 11),gg.2.2.2.2.2.2.1,gg.2.2.2.2.2.2.2.1,gg.2.2.2.2.2.2.2.2⟩:TPk),b5,(⟨b7,b8⟩:TRe),b6,a8,a9,a3⟩:TSt)) 47)::(Cel b4 #[.slice gg.2.2.2.2.1 gg.2.2.1.length gg.2.2.2.2.2.1,.bool gg.2.2.2.1] 85)::(Sl a8 a9 5 1 byteC a3)::(Cel x #[zP a 1,zP a 2,zP a 3,zP a 4,zP a 5] 110)::(Cel b1 (TSt.cells dSt) 47)::L) w) (fun gg=>b0-gg.1) (0,true,e8,e9,k2,k3,none,0,([]:List TMs)) [0,2,3,4,5,8,12,13] (by kernel_rfl) ⟨⟨Nat.zero_le _,(fun _=>rfl),(fun o=>by cases o),z3,(fun m hm=>by cases hm),Nat.le_refl _⟩,z8⟩ ?_
     rintro⟨ii,fz,rrq,spq,azq,czq,e0,e1,c4⟩ iz ⟨hp,f8⟩
     dsimp only at hp f8
     refine Zs (Zs (GoC.join (T:=Unit) (E:=fun _=>[(131,.bool ((decide ((ii:Int)<(b0:Nat))) && fz)),(0,.slice ad b.length cb),(2,zP b1 0),(3,.int .i64 0),(4,zP b4 0),(5,zP a 0),(8,.bool fz),(12,.int .i64 (b0:Nat)),(13,.int .i64 (ii:Nat))]) (F:=fun _ w=>St w0 ((Sl e0 e1 63 121 TMs.cells c4)::(QS c4)::(Cel a (TSt.cells (⟨i,IntKind.i64.wrap (IntKind.u64.wrap (q-1)),IntKind.i64.wrap (IntKind.u64.wrap (u-1)),IntKind.i64.wrap (IntKind.u64.wrap (a0-1)),IntKind.i64.wrap (IntKind.u64.wrap (a1-1)),IntKind.i64.wrap (IntKind.u64.wrap (a2-1)),(⟨a4,a6,a7,b2,b3,a5⟩:TOp),dBd,(⟨c1,c3,(vecF (valW (b9,c0)) 11),e0,e1,c4⟩:TPk),b5,(⟨b7,b8⟩:TRe),b6,a8,a9,a3⟩:TSt)) 47)::(Cel b4 #[.slice azq rrq.length czq,.bool spq] 85)::(Sl a8 a9 5 1 byteC a3)::(Cel x #[zP a 1,zP a 2,zP a 3,zP a 4,zP a 5] 110)::(Cel b1 (TSt.cells dSt) 47)::L) w) ?_ ?_))
     ·refine Zg [] (Zr 0 4 [] ?_)
      rcases Bool.eq_false_or_eq_true (decide ((ii:Int)<(b0:Nat))) with c5|c5
      ·exact Zqs 129 true c5 (En (Lud (Dz (GoQ.pick [131,0,2,3,4,5,8,12,13] (S':=[(131,.bool fz),(0,.slice ad b.length cb),(2,zP b1 0),(3,.int .i64 0),(4,zP b4 0),(5,zP a 0),(8,.bool fz),(12,.int .i64 (b0:Nat)),(13,.int .i64 (ii:Nat))]) (by kernel_rfl) (GoQ.meet1 () (by first|rfl|(simp only [c5,Bool.not_true,Bool.not_false,Bool.true_or,Bool.false_or,Bool.true_and,Bool.false_and,Bool.or_true,Bool.or_false,Bool.and_true,Bool.and_false];done)|(simp [c5];done)) f8)))))
      ·exact Zqs 129 false c5 (En (Lud (Dz (GoQ.pick [131,0,2,3,4,5,8,12,13] (S':=[(131,.bool false),(0,.slice ad b.length cb),(2,zP b1 0),(3,.int .i64 0),(4,zP b4 0),(5,zP a 0),(8,.bool fz),(12,.int .i64 (b0:Nat)),(13,.int .i64 (ii:Nat))]) (by kernel_rfl) (GoQ.meet1 () (by first|rfl|(simp only [c5,Bool.not_true,Bool.not_false,Bool.true_or,Bool.false_or,Bool.true_and,Bool.false_and,Bool.or_true,Bool.or_false,Bool.and_true,Bool.and_false];done)|(simp [c5];done)) f8)))))
     intro _ aa k5
     refine Zt (Zqc (t:=(decide ((ii:Int)<(b0:Nat))) && fz) (fun c9=>?_) (fun c9=>?_))
     ·have ab:=(Bool.and_eq_true_iff.1 c9).1
      have jb:fz=true:=(Bool.and_eq_true_iff.1 c9).2
      have hfz:=(Bool.and_eq_true_iff.1 c9).2
      have hii:ii<b0:=by have:=of_decide_eq_true (Bool.and_eq_true_iff.1 c9).1;omega
      refine En (Lk (Lt (Ls (Lb (Ls (Lg [1,5,6] (Lw (Zc (rmessage_spec Q rrq spq (fun w h=>hQ w (h.drop 6)) hp.2.2.2.1 (k5.pl 3)) ?_))))))))
      rintro jc jd ⟨c2,f9,g0,g5,g7,g8,rfl,k6,af,ag,ah⟩
      refine Lo (Lw (Zag (TMs.cells dMs) ah fun ai je aj=>Lo (Dz (Zu 0 0 (TMs.cells c2) aj fun jf g9=>Lz (Lq (Dz (Zgj [4,5,8] (Hl 2 5 101 g9 (Hla 3 0 0 121 (TMs.cells c2) g9 Hz)) (GoR.sliceLit rfl (by kernel_rfl) (t:=40) (e:=63) (n:=1) (ps:=[(0,.agg (TMs.cells c2))]) (by kernel_rfl) (by kernel_rfl) (ti:=Tryz.t63) (z:=.agg (TMs.cells dMs)) (by kernel_rfl) (by kernel_rfl) (by decide) (by decide) (cs:=TMs.cells c2) (by kernel_rfl) g9 fun al an ao ap=>?_))))))))
      have aq:St w0 ((Sl (some ⟨al,0,none⟩) 1 63 121 TMs.cells ([(c2:TMs)]))::(Cel ai (TMs.cells c2) 63)::(Sl c2.bd.qa c2.bd.qc 143 2 TPr.cells c2.bd.ql)::(Cel b4 #[.slice g7 g0.length g8,.bool g5] 85)::(Sl e0 e1 63 121 TMs.cells c4)::(QS c4)::(Cel a (TSt.cells (⟨i,IntKind.i64.wrap (IntKind.u64.wrap (q-1)),IntKind.i64.wrap (IntKind.u64.wrap (u-1)),IntKind.i64.wrap (IntKind.u64.wrap (a0-1)),IntKind.i64.wrap (IntKind.u64.wrap (a1-1)),IntKind.i64.wrap (IntKind.u64.wrap (a2-1)),(⟨a4,a6,a7,b2,b3,a5⟩:TOp),dBd,(⟨c1,c3,(vecF (valW (b9,c0)) 11),e0,e1,c4⟩:TPk),b5,(⟨b7,b8⟩:TRe),b6,a8,a9,a3⟩:TSt)) 47)::(Sl a8 a9 5 1 byteC a3)::(Cel x #[zP a 1,zP a 2,zP a 3,zP a 4,zP a 5] 110)::(Cel b1 (TSt.cells dSt) 47)::L) an:=St.slOf (l:=[(c2:TMs)]) (f:=TMs.cells) ao ap (dMsF).size (by simp only [lC,lN,maxLen];omega) (by kernel_rfl)
      refine Lo (Dz (Zap mssOK2 dMsF dMs (aq.pl 4) (by simp only [lA,lC,lN,List.length_map] at *;omega) fun f0 f1 jg au=>Lo (Lw (Zu 6 101 (TSt.cells (⟨i,IntKind.i64.wrap (IntKind.u64.wrap (q-1)),IntKind.i64.wrap (IntKind.u64.wrap (u-1)),IntKind.i64.wrap (IntKind.u64.wrap (a0-1)),IntKind.i64.wrap (IntKind.u64.wrap (a1-1)),IntKind.i64.wrap (IntKind.u64.wrap (a2-1)),(⟨a4,a6,a7,b2,b3,a5⟩:TOp),dBd,(⟨c1,c3,(vecF (valW (b9,c0)) 11),f0,f1,(c4++([(c2:TMs)]))⟩:TPk),b5,(⟨b7,b8⟩:TRe),b6,a8,a9,a3⟩:TSt)) au fun av aw=>Lo (Ld (Lm (Lt (Dz (Zaj (Hwi 1 ((ii:Nat)+1) Hz) ?_)))))))))
      have ax:=((((((((((aw.pl 9).pl 9).pl 9).pl 7).pl 9).pl 5).pl 9).pl 9).pl 9).pl 9)
      have ay:=ax.dr 2
      have az:St w0 ((QS (c4++[c2]))::(Sl f0 f1 63 121 TMs.cells (c4++([(c2:TMs)])))::(Cel a (TSt.cells (⟨i,IntKind.i64.wrap (IntKind.u64.wrap (q-1)),IntKind.i64.wrap (IntKind.u64.wrap (u-1)),IntKind.i64.wrap (IntKind.u64.wrap (a0-1)),IntKind.i64.wrap (IntKind.u64.wrap (a1-1)),IntKind.i64.wrap (IntKind.u64.wrap (a2-1)),(⟨a4,a6,a7,b2,b3,a5⟩:TOp),dBd,(⟨c1,c3,(vecF (valW (b9,c0)) 11),f0,f1,(c4++([(c2:TMs)]))⟩:TPk),b5,(⟨b7,b8⟩:TRe),b6,a8,a9,a3⟩:TSt)) 47)::(Cel b4 #[.slice g7 g0.length g8,.bool g5] 85)::(Sl a8 a9 5 1 byteC a3)::(Cel x #[zP a 1,zP a 2,zP a 3,zP a 4,zP a 5] 110)::(Cel b1 (TSt.cells dSt) 47)::L) av:=by rw [QS_app];exact St.join ay
      exact GoQ.back (ii+1,f9,g0,g5,g7,g8,f0,f1,(c4++[c2])) [0,2,3,4,5,8,12,13] (by kernel_rfl) (by show b0-(ii+1)<b0-ii;omega) ⟨⟨by omega,(fun o=>by have h8:f9=true:=o;rw [hp.2.1 hfz,show b0-ii=(b0-(ii+1))+1 from by omega,msP_step (h8▸k6),List.map_append];rfl),(fun o=>by have h8:f9=false:=o;rw [hp.2.1 hfz,show b0-ii=(b0-(ii+1))+1 from by omega,msP_bad (h8▸k6)]),ag,fun m hm=>(List.mem_append.1 hm).elim (hp.2.2.2.2.1 m) (fun o=>by rw [List.mem_singleton.1 o];exact af),by show(c4++[_]).length≤ii+1;have:=hp.2.2.2.2.2;simp only [lA,lC,lN];omega⟩,(((((((az.pl 6).pl 6).pl 6).pl 6).pl 6).pl 5).pl 6)⟩
     ·have bb:fz=true→b0-ii=0:=fun o=>by
       rw [o,Bool.and_true] at c9
       have:=of_decide_eq_false c9;omega
      refine Zx (GoQ.skipC (GoQ.skipL (GoQ.hit ?_)))
      have bc:=St.slNil k5 143 2 TPr.cells
      obtain⟨xx,hxx⟩:∃ s:TSt,s=(⟨i,IntKind.i64.wrap (IntKind.u64.wrap (q-1)),IntKind.i64.wrap (IntKind.u64.wrap (u-1)),IntKind.i64.wrap (IntKind.u64.wrap (a0-1)),IntKind.i64.wrap (IntKind.u64.wrap (a1-1)),IntKind.i64.wrap (IntKind.u64.wrap (a2-1)),(⟨a4,a6,a7,b2,b3,a5⟩:TOp),dBd,(⟨c1,c3,(vecF (valW (b9,c0)) 11),e0,e1,c4⟩:TPk),b5,(⟨b7,b8⟩:TRe),b6,a8,a9,a3⟩:TSt):=⟨_,rfl⟩
      have k7:St w0 ((Sl xx.bd.qa xx.bd.qc 143 2 TPr.cells xx.bd.ql)::(Sl xx.pk.ma xx.pk.mc 63 121 TMs.cells xx.pk.ml)::(QS xx.pk.ml)::(Cel a (TSt.cells xx) 47)::(Cel b4 #[.slice azq rrq.length czq,.bool spq] 85)::(Sl xx.pa xx.pc 5 1 byteC xx.pl)::(Cel x #[zP a 1,zP a 2,zP a 3,zP a 4,zP a 5] 110)::(Cel b1 (TSt.cells dSt) 47)::L) aa:=(by rw [hxx];exact bc)
      have hpb:∀ z∈a3,0≤z∧z<256:=by have o:=tk_byt (n:=d4) (s:=(e3,e4)) e5.byt;rw [e6] at o;exact o
      have hxo:StOK xx:=by
       have o:=k7.slNone 5 rfl
       rw [hxx] at o ⊢
       exact⟨(by dsimp only;omega),i64wrap_rng _,i64wrap_rng _,i64wrap_rng _,i64wrap_rng _,i64wrap_rng _,(by dsimp only;omega),(by dsimp only;omega),dBd_ok,(vecF_all _ 0 (fun k hk=>by have:=wordP_rng (s:=stW (b9,c0) k) (v:=valW (b9,c0) k) (s2:=(wordP (stW (b9,c0) k)).2) rfl;omega)),(by dsimp only;omega),(by dsimp only;omega),hpb,o⟩
      have ht:fz=true→tlP (hdP b)=(conS xx,(true,(rrq,spq))):=fun o=>by
       have h8:=tlP_16 (h:=hdP b) (p:=⟨c1,c3,(vecF (valW (b9,c0)) 11),none,0,c4.map conM⟩) (ok:=true) (c:=(rrq,spq)) (by rw [hh];exact e7) (by rw [hh];exact packP_eq j0 j3 (by rw [← hst];exact k4.1) (by rw [hp.2.1 o,bb o];rfl))
       rw [h8,hh,hxx]
       rfl
      have htf:fz=false→(tlP (hdP b)).2.1=false:=fun o=>tlP_16f (by rw [hh];exact e7) (by rw [hh];exact packP_f j0 j3 (by rw [← hst];exact k4.1) (hp.2.2.1 o))
      have hxm:∀ m∈xx.pk.ml,MsOK m:=by rw [hxx];exact hp.2.2.2.2.1
      have be:=((((((((k7.pl 7).pl 5).pl 5).pl 5).pl 5).pl 5).pl 6).pl 7)
      exact Zme [0,2,3,4,5,8] (xx,rrq,spq,azq,czq,fz) ⟨⟨hxo,hxm,ht,htf,hp.2.2.2.1⟩,(be.dr 1)⟩
   ·have e7:=ieqF f6
    refine Zk ?_
    have bg:=St.slNil d5 143 2 TPr.cells
    have bh:=St.slNil bg 63 121 TMs.cells
    have bi:=St.addNothing bh
    obtain⟨xx,hxx⟩:∃ s:TSt,s=(⟨i,IntKind.i64.wrap (IntKind.u64.wrap (q-1)),IntKind.i64.wrap (IntKind.u64.wrap (u-1)),IntKind.i64.wrap (IntKind.u64.wrap (a0-1)),IntKind.i64.wrap (IntKind.u64.wrap (a1-1)),IntKind.i64.wrap (IntKind.u64.wrap (a2-1)),(⟨a4,a6,a7,b2,b3,a5⟩:TOp),dBd,dPk,b5,(⟨b7,b8⟩:TRe),b6,a8,a9,a3⟩:TSt):=⟨_,rfl⟩
    have k8:St w0 ((QS xx.pk.ml)::(Sl xx.pk.ma xx.pk.mc 63 121 TMs.cells xx.pk.ml)::(Sl xx.bd.qa xx.bd.qc 143 2 TPr.cells xx.bd.ql)::(Sl xx.pa xx.pc 5 1 byteC xx.pl)::(Cel b4 #[.slice i3 c7.length i4,.bool c8] 85)::(Cel x #[zP a 1,zP a 2,zP a 3,zP a 4,zP a 5] 110)::(Cel a (TSt.cells xx) 47)::(Cel b1 (TSt.cells dSt) 47)::L) v9:=(by rw [hxx];exact bi)
    have hpb:∀ z∈a3,0≤z∧z<256:=by have o:=tk_byt (n:=d4) (s:=(e3,e4)) e5.byt;rw [e6] at o;exact o
    have hxo:StOK xx:=by
     have o:=k8.slNone 3 rfl
     rw [hxx] at o ⊢
     exact⟨(by dsimp only;omega),i64wrap_rng _,i64wrap_rng _,i64wrap_rng _,i64wrap_rng _,i64wrap_rng _,(by dsimp only;omega),(by dsimp only;omega),dBd_ok,dVc_ok,(by dsimp only;omega),(by dsimp only;omega),hpb,o⟩
    have d9:tlP (hdP b)=(conS xx,(true,(c7,c8))):=by
     have h8:=tlP_0 (h:=hdP b) (by rw [hh];exact f4) (by rw [hh];exact e7)
     rw [h8,hh,hxx]
     rfl
    have ht:true=true→tlP (hdP b)=(conS xx,(true,(c7,c8))):=fun _=>d9
    have htf:true=false→(tlP (hdP b)).2.1=false:=fun o=>by rw [d9];exact o
    have hxm:∀ m∈xx.pk.ml,MsOK m:=by rw [hxx];intro m hm;cases hm
    have bj:=((((((((k8.pl 7).pl 5).pl 7).pl 3).pl 4).pl 5).pl 6).pl 7)
    exact Zme [0,2,3,4,5,8] (xx,c7,c8,i3,i4,true) ⟨⟨hxo,hxm,ht,htf,f2⟩,(bj.dr 1)⟩
 rintro⟨xx,rrz,spz,azz,czz,okz⟩ jh ⟨hpz,k9⟩
 dsimp only at hpz k9
 refine Zs (Zs ?_)
 obtain⟨hxo,hxm,ht,htf,hqz⟩:=hpz
 refine ZD (rds [0,1,2,3,4,5,6,7,8,9,12,13] (.ef 10 (rds [11,14,15,16,17,18,19,20] .done))) k9 fun ji d2 jj=>Zr 0 3 [] ?_
 rcases Bool.eq_false_or_eq_true (!okz) with c6|c6
 ·refine Zqs 150 true c6 (En (Lw (Zsk (En (Lud (Lt (LT (Ls (Lg [1] (Lw (Zu 6 0 (TSt.cells dSt) d2 fun jk l0=>Lz (Le (Ly (Dz (Zrv 6 (.int .i64 5) l0 ?_)))))))))))))))
  have bn:=St.slNil l0 5 1 byteC
  have bo:=St.slNil bn 143 2 TPr.cells
  have bp:=St.slNil bo 63 121 TMs.cells
  have bq:=St.addNothing bp
  have br:=(((((((((((bq.pl 0).pl 1).pl 2).pl 3).pl 10).pl 10).pl 10).pl 10).pl 10).pl 10).pl 10)
  exact⟨dSt,5,rfl,(get_f (htf (by simpa using c6))),dSt_ok,(fun m hm=>by cases hm),(br.dr 7)⟩
 ·refine Zqs 150 false c6 (Zpj 3 6 (Hl 6 5 1 d2 Hz) (Zsq 156 spz (fun l1=>?_) (fun l1=>?_)))
  ·refine En (Lw (Zsk (En (Lud (Lt (LT (Ls (Lg [1] (Lw (Zu 6 0 (TSt.cells dSt) d2 fun jl l2=>Lz (Le (Ly (Dz (Zrv 6 (.int .i64 5) l2 ?_))))))))))))))
   have bt:=St.slNil l2 5 1 byteC
   have bu:=St.slNil bt 143 2 TPr.cells
   have bv:=St.slNil bu 63 121 TMs.cells
   have bw:=St.addNothing bv
   have bx:=(((((((((((bw.pl 0).pl 1).pl 2).pl 3).pl 10).pl 10).pl 10).pl 10).pl 10).pl 10).pl 10)
   exact⟨dSt,5,rfl,(get_bad (s:=conS xx) (by rw [ht (by simpa using c6),show spz=true by simpa using l1])),dSt_ok,(fun m hm=>by cases hm),(bx.dr 7)⟩
  ·refine Zh [(9,.agg (TSt.cells xx)),(12,.gen [])] [(9,[.prop (Array.size (TSt.cells xx)=107),.cells ⟨a,0,none⟩ (TSt.cells xx)])] (ak (okp (by kernel_rfl) (oka (d2.cells 4 0 rfl (by kernel_rfl)) ok0)) ak0) (GoR.bytesStrG rfl (by kernel_rfl) (src:=22) (dst:=9) (e:=5) (ad:=ad) (n:=b.length) (cap:=cb) (f:=byteC) rfl b rfl (by kernel_rfl) (by kernel_rfl) (by kernel_rfl) (by kernel_rfl) hq.byt (hq.row _ (hQ _ (d2.drop 7))) ?_)
   refine Zc (rputS_spec xx hxo (fun k hk=>⟨hxm _ (getD_mem (d:=dMs) hk),fun w h=>QS_rows (h.at_ 3 rfl) hk⟩) (fun w h=>h.rows 1 rfl (dPrF).size _) (fun w h=>h.rows 2 rfl (dMsF).size _) (fun w h=>h.rows 0 rfl (byteF).size _) d2) ?_
   rintro jm jn ⟨ca,cc,rfl,d3⟩
   refine⟨(opl (n:=[.holds (fun w=>RowsAt w ad b.length 1 (fun k=>byteC (b.getD k 0)))]) (by kernel_rfl) (okh (hq.row _ (hQ _ (d3.drop 8))) ok0)),(GoR.bytesStrG rfl (by kernel_rfl) (src:=22) (dst:=9) (e:=5) (ad:=ca) (n:=((putS xx).length)) (cap:=cc) (f:=byteC) rfl (putS xx) rfl (by kernel_rfl) (by kernel_rfl) (by kernel_rfl) (by kernel_rfl) (putS_byt hxo hxm) (d3.rows 0 rfl (byteF).size (0:Int)) (Zp 14 3 [(14,.as_ (.bool (!(decide ((strOf (putS xx))=(strOf b))))) (.gen []))] [(14,[.prop (Value.bool (!((strOf (putS xx)).toList == (strOf b).toList))=Value.bool (!(decide ((strOf (putS xx))=(strOf b)))))])] (ak (okp (sne _ _) ok0) ak0) (Zsq 164 (!(decide ((strOf (putS xx))=(strOf b)))) (fun d0=>?_) (fun d0=>?_))))⟩
   ·have h0:=notT d0
    refine En (Lud (Lt (LT (Ls (Lg [1] (Lw (Zu 7 0 (TSt.cells dSt) d3 fun jo l3=>Lz (Le (Ly (Dz (Zrv 7 (.int .i64 5) l3 ?_)))))))))))
    have cd:=St.slNil l3 5 1 byteC
    have ce:=St.slNil cd 143 2 TPr.cells
    have cf:=St.slNil ce 63 121 TMs.cells
    have ch:=St.addNothing cf
    have ci:=((((((((((((ch.pl 0).pl 1).pl 2).pl 3).pl 11).pl 11).pl 11).pl 11).pl 11).pl 11).pl 11).pl 11)
    exact⟨dSt,5,rfl,(get_ne (ht (by simpa using c6)) (fun e=>by rw [e] at d0;simp at d0)),dSt_ok,(fun m hm=>by cases hm),(ci.dr 8)⟩
   ·have h0:=notF d0
    refine En (Lud (Lt (Dz (Zqc (t:=(b.length:Int) == 0) (fun e2=>?_) (fun e2=>?_)))))
    ·refine En (Ls (Lg [1] (Lw (Zu 7 0 (TSt.cells dSt) d3 fun jp l4=>Lz (Le (Ly (Dz (Zrv 7 (.int .i64 5) l4 ?_))))))))
     have hpb:putS xx=b:=strOf_inj (putS_byt hxo hxm) hq.byt (by simpa using d0)
     have cn:=St.slNil l4 5 1 byteC
     have co:=St.slNil cn 143 2 TPr.cells
     have cq:=St.slNil co 63 121 TMs.cells
     have cr:=St.addNothing cq
     have ct:=((((((((((((cr.pl 0).pl 1).pl 2).pl 3).pl 11).pl 11).pl 11).pl 11).pl 11).pl 11).pl 11).pl 11)
     exact⟨dSt,5,rfl,((congrArg getT (List.length_eq_zero_iff.1 (by simpa using e2))).trans get_nil),dSt_ok,(fun m hm=>by cases hm),(ct.dr 8)⟩
    ·refine Zk (Zt (Zs (Zgj [1] (Hla 0 5 0 107 (TSt.cells xx) d3 Hz) (Zu 7 0 (TSt.cells xx) d3 fun jq l5=>Lz (Le (Dz (Zrv 7 (.int .i64 0) l5 ?_)))))))
     have hpb:putS xx=b:=strOf_inj (putS_byt hxo hxm) hq.byt (by simpa using d0)
     have cv:=((((((((l5.pl 4).pl 4).pl 4).pl 4).pl 7).pl 7).pl 7).pl 7)
     exact⟨xx,0,rfl,(get_is hpb (by simpa using e2) hxo hxm),hxo,hxm,(cv.dr 4)⟩
end
section
variable {w0 w : World} {L : List Asn} {c : Nat} {az : Option Addr} {cz : Nat}
def okS (l:List (List Int)) (x:List Int):Bool:=decide ((getT x).2=0) && decide (l.length<65536)
def ptP:Nat→CS→List (List Int)→List (List Int)×Bool×CS
 | 0,s,l=>(l,false,s)
 | k+1,s,l =>
  if s.1.length=0∨s.2=true then (l,false,s) else
  if (tk (halfP s).1 (halfP s).2).2.2=true then (l,false,(tk (halfP s).1 (halfP s).2).2) else
  if okS l (tk (halfP s).1 (halfP s).2).1=true then ptP k (tk (halfP s).1 (halfP s).2).2 (l++[(tk (halfP s).1 (halfP s).2).1]) else (l,true,(tk (halfP s).1 (halfP s).2).2)
theorem ptP_end {s:CS}{l:List (List Int)}(h:s.1.length=0∨s.2=true):∀ k,ptP k s l=(l,false,s)
 | 0=>rfl
 | k+1=>if_pos h
theorem ptP_bad {k n:Nat}{s s1:CS}{l:List (List Int)}{x:List Int}{c:CS}(h:¬ (s.1.length=0∨s.2=true)) (hh:halfP s=(n,s1)) (ht:tk n s1=(x,c)) (hc:c.2=true):ptP (k+1) s l=(l,false,c):=by
 unfold ptP
 rw [if_neg h,hh]
 simp only [ht,hc,if_true]
theorem ptP_step {k n:Nat}{s s1:CS}{l:List (List Int)}{x:List Int}{c:CS}(h:¬ (s.1.length=0∨s.2=true)) (hh:halfP s=(n,s1)) (ht:tk n s1=(x,c)) (hc:c.2=false) (ho:okS l x=true):ptP (k+1) s l=ptP k c (l++[x]):=by
 rw [ptP,if_neg h,hh]
 simp only [ht,hc,ho,if_true,Bool.false_eq_true,if_false]
theorem ptP_stop {k n:Nat}{s s1:CS}{l:List (List Int)}{x:List Int}{c:CS}(h:¬ (s.1.length=0∨s.2=true)) (hh:halfP s=(n,s1)) (ht:tk n s1=(x,c)) (hc:c.2=false) (ho:okS l x=false):ptP (k+1) s l=(l,true,c):=by
 rw [ptP,if_neg h,hh]
 simp only [ht,hc,ho,Bool.false_eq_true,if_false]
theorem pt_less {n:Nat}{s s1:CS}{x:List Int}{c:CS}(h:¬ (s.1.length=0∨s.2=true)) (hh:halfP s=(n,s1)) (ht:tk n s1=(x,c)) (hc:c.2=false):c.1.length<s.1.length:=by
 have a:(tk 2 s).2=s1:=congrArg Prod.snd hh
 unfold tk at a ht
 split at ht
 ·cases ht;cases hc
 ·rename_i hn
  cases ht
  split at a
  ·subst a;exact absurd (.inl rfl) hn
  ·subst a
   simp only [List.length_drop]
   omega
theorem parts1_spec {bx:Nat}(G:Type) (b:Nat) (ac:G→List (List Int)) (GX:G→Asn) (BX:G→Asn) (Q:Asn) (r:List Int) (sp:Bool) (t:G) (hQ:∀ w,St w0 L w→Q.holds w) (hq:CutOK Q az r cz) (hy:∀ (t:G) (x:List Int) (ax:Option Addr) (cx:Nat) (L':List Asn) (w:World),x.length<65536→Byt x→St w0 (Sl ax cx 5 1 byteC x::GX t::L') w→Yl Tryz.prog b #[.slice ax x.length cx] w (fun v w'=>(∃ u,v=.bool true∧okS (ac t) x=true∧ac u=ac t++[x]∧St w0 (GX u::L') w')∨(∃ u,v=.bool false∧okS (ac t) x=false∧St w0 (BX u::L') w'))) (hs:St w0 ((Cel c #[.slice az r.length cz,.bool sp] 150)::(Cel bx #[zP c 0] 116)::(GX t)::L) w):Cs Tryz.prog 75 #[.func (.yield b) #[] #[],zP bx 0] w fun rv w'=>(∃ (t2:G) (rr2:List Int) (sp2:Bool) (az2:Option Addr) (cz2:Nat),rv=.tuple #[]∧ptP (r.length+1) (r,sp) (ac t)=(ac t2,false,(rr2,sp2))∧CutOK Q az2 rr2 cz2∧St w0 ((Cel c #[.slice az2 rr2.length cz2,.bool sp2] 150)::(Cel bx #[zP c 0] 116)::(GX t2)::L) w')∨(∃ (t2:G) (rr2:List Int) (sp2:Bool) (az2:Option Addr) (cz2:Nat),rv=.tuple #[]∧(ptP (r.length+1) (r,sp) (ac t)).2.1=true∧CutOK Q az2 rr2 cz2∧St w0 ((Cel c #[.slice az2 rr2.length cz2,.bool sp2] 150)::(Cel bx #[zP c 0] 116)::(BX t2)::L) w'):=by
 refine Zen Tryz.func75 Tryz.ntmps75 (Zb (GoC.loop (T:=Nat×(List Int)×Bool×(Option Addr)×Nat×G) (fun gg=>[(0,.func (.yield b) #[] #[]),(1,zP bx 0)]) (fun gg w=>(gg.2.1.length<gg.1∧ptP (r.length+1) (r,sp) (ac t)=ptP gg.1 (gg.2.1,gg.2.2.1) (ac gg.2.2.2.2.2)∧CutOK Q gg.2.2.2.1 gg.2.1 gg.2.2.2.2.1)∧St w0 ((Cel c #[.slice gg.2.2.2.1 gg.2.1.length gg.2.2.2.2.1,.bool gg.2.2.1] 150)::(Cel bx #[zP c 0] 116)::(GX gg.2.2.2.2.2)::L) w) (fun gg=>gg.1) ((r.length+1),r,sp,az,cz,t) [0,1] (by kernel_rfl) ⟨⟨Nat.lt_succ_self _,rfl,hq⟩,hs⟩ ?_))
 rintro⟨kk,d,e,b3,b4,t1⟩ w1 ⟨hp,a4⟩
 dsimp only at hp a4
 obtain⟨a5,rfl⟩:∃ m,kk=m+1:=⟨kk-1,by omega⟩
 refine Zs (Zs (Zgj [1,5] (Hl 0 1 0 a4 Hz) (Zc1 (cutLeft_spec d e a4) fun w6 a6=>Lo (Dz (Zr 2 2 [] ?_)))))
 rcases Bool.eq_false_or_eq_true (decide ((d.length:Int)>0)) with z|z
 ·refine Zqs 7 true z ?_
  have c0:=of_decide_eq_true z
  refine Zj (Hl 4 1 0 a6 Hz) (Zc1 (cutOk_spec d e a6) fun d8 b5=>Lz (Dz (Zqc (t:=!e) (fun a1=>?_) (fun a1=>?_))))
  ·have hno:¬ ((d,e).1.length=0∨(d,e).2=true):=fun i=>i.elim (fun h8=>by simp only at h8;omega) (fun h8=>by simp only at h8;rw [h8] at a1;cases a1)
   refine Zk (Zt (Zb (Zs (ZD (rds [0,1] (.ef 2 (.rd 3 (.ef 4 (.rd 5 .done))))) b5 fun d9 a7 e0=>Zj (Hl 0 1 0 a7 (Hl 1 1 0 a7 Hz)) (Zc (cutHalf_spec Q d e (fun w h=>hQ w (h.drop 2)) hp.2.2 a7) ?_)))))
   rintro e1 e2 ⟨a2,a8,a9,e3,e4,rfl,a0,e5,b6,b7⟩
   refine⟨(opl (n:=[.cell ⟨bx,0,none⟩ (zP c 0)]) (by kernel_rfl) (okc (b7.cell 1 rfl (by kernel_rfl)) ok0)),(Zj (Hwi 3 (a2:Nat) Hz) (Zc (cutRaw_spec Q a8 a9 a2 (fun w h=>hQ w (h.drop 2)) b6 b7) ?_))⟩
   rintro e6 e7 ⟨c1,c2,c3,a3,f,b0,b1,rfl,q,b2,b8⟩
   refine Lz (Ls (Dz (Zgj [1,6] (Hl 0 2 0 b8 Hz) (Zc1 (cutOk_spec a3 f (b8.pl 1)) fun e9 b9=>Lo (Dz (Zr 2 2 [] ?_))))))
   rcases Bool.eq_false_or_eq_true (!(!f)) with o|o
   ·refine Zqs 19 true o ?_
    have hb:f=true:=by simpa using o
    refine En (Lw (Zsk (En (Lud (Lt (LT (Le (Ll (LsR (Ll (Dz (GoQ.done (.inl rfl) (fun a hf=>results0 rfl a hf) ?_))))))))))))
    have c6:=((((b9.pl 3).pl 3).pl 2).pl 3)
    exact .inl ⟨t1,a3,f,b0,b1,rfl,(hp.2.1.trans (ptP_bad hno a0 q hb)),b2,(c6.dr 1)⟩
   ·refine Zqs 19 false o ?_
    have hb:f=false:=by simpa using o
    refine En (Lw (GoR.yield rfl rfl (by kernel_rfl) (b:=b) (args:=#[.slice c1 c3.length c2]) (by kernel_rfl) (hy _ _ _ _ _ _ (by have i:=tk_len a2 (a8,a9);rw [q] at i;have:=halfP_rng a0;simp only [] at i;omega) (by have i:=tk_byt (n:=a2) (s:=(a8,a9)) b6.byt;rw [q] at i;exact i) ((b9.pl 3).pl 2)) ?_))
    rintro f0 f1 (⟨c9,rfl,d0,d1,d2⟩|⟨d3,rfl,d4,d5⟩)
    ·exact Lz (LF (Lk (Lm (Dz (GoQ.back (a5,a3,f,b0,b1,c9) [0,1] (by kernel_rfl) (by show a5<(a5+1);omega) ⟨⟨by have:=pt_less hno a0 q hb;simp only at this ⊢;omega,by rw [hp.2.1,ptP_step hno a0 q hb d0,d1],b2⟩,(((d2.pl 0).pl 2).pl 2)⟩)))))
    ·exact Lz (LT (Le (Ll (LsR (Ll (Dz (GoQ.done (.inl rfl) (fun a hf=>results0 rfl a hf) (.inr (⟨d3,a3,f,b0,b1,rfl,(by rw [hp.2.1,ptP_stop hno a0 q hb d4]),b2,(((d5.pl 0).pl 2).pl 2)⟩)))))))))
  ·exact Zx (GoQ.skipC (GoQ.skipL (GoQ.hit (GoQ.done (.inr rfl) (fun a hf=>results0 rfl a hf) (.inl ⟨t1,d,e,b3,b4,rfl,(hp.2.1.trans (ptP_end (.inr (show e=true by simpa using a1)) _)),hp.2.2,b5⟩)))))
 ·refine Zqs 7 false z ?_
  have c0:=of_decide_eq_false z
  exact En (Lw (Zsk (En (Lud (Lt (LF (Lx (LsC (LsL (Lh (Dz (GoQ.done (.inr rfl) (fun a hf=>results0 rfl a hf) (.inl ⟨t1,d,e,b3,b4,rfl,(hp.2.1.trans (ptP_end (.inl (show d.length=0 by omega)) _)),hp.2.2,a6⟩)))))))))))))
end
section
variable {w0 w : World} {L : List Asn} {ad : Option Addr} {c : Nat} {cb : Nat}
structure TSl where
 pa:Option Addr
 pc:Nat
 pl:List Int
def TSl.cells (x:TSl):Array Value:=#[.slice x.pa x.pl.length x.pc]
abbrev dSl:TSl:=⟨none,0,[]⟩
theorem dSlF:CellF TSl.cells 1:=⟨fun _=>rfl,fun _=>rfl⟩
theorem slsOK:ElemOK Tryz.prog 91 22 1 24:=⟨by kernel_rfl,⟨Tryz.t22,.slice none 0 0,by kernel_rfl,by kernel_rfl,by kernel_rfl,by kernel_rfl,by kernel_rfl⟩,by decide⟩
theorem stsOK:ElemOK Tryz.prog 27 47 107 528:=⟨by kernel_rfl,⟨Tryz.t47,.agg (TSt.cells dSt),by kernel_rfl,by kernel_rfl,by kernel_rfl,by kernel_rfl,by kernel_rfl⟩,by decide⟩
def QBr:List TSl→Asn
 | []=>St.nothing
 | m::l=>Asn.and (Sl m.pa m.pc 5 1 byteC m.pl) (QBr l)
def QB (l:List TSl):Asn:=QBr l.reverse
theorem QB_app (l:List TSl) (m:TSl):QB (l++[m])=Asn.and (Sl m.pa m.pc 5 1 byteC m.pl) (QB l):=by
 unfold QB
 rw [List.reverse_append]
 rfl
theorem QBr_rows {w:World}:∀ {l:List TSl},(QBr l).holds w→∀ m∈l,RowsAt w m.pa m.pl.length 1 (fun j=>byteC (m.pl.getD j (0:Int)))
 | [],_,m,hm=>by cases hm
 | a::l,h,m,hm=>by
  rcases List.mem_cons.1 hm with rfl|hm
  ·exact Sl.rows byteF.size h.1 0
  ·exact QBr_rows h.2.1 m hm
theorem QB_rows {w:World}{l:List TSl}(h:(QB l).holds w){k:Nat}(hk:k<l.length):RowsAt w (l.getD k dSl).pa (l.getD k dSl).pl.length 1 (fun j=>byteC ((l.getD k dSl).pl.getD j (0:Int))) :=
 QBr_rows h _ (List.mem_reverse.2 (by rw [List.getD_eq_getElem?_getD,List.getElem?_eq_getElem hk];exact List.getElem_mem hk))
structure RdG where
 l:List TSl
 ra:Option Addr
 rc:Nat
 y:List TSt
 sa:Option Addr
 sc:Nat
 h:y.length=l.length
def RdG.ac (g:RdG):List (List Int):=g.l.map TSl.pl
def GXr (b cn cr cs ce:Nat) (r:Loop) (n:Int) (g:RdG):Asn:=ands [Blk b (.loop r),Cel cn #[.int .i64 n] 3,Cel cr #[.slice g.ra g.l.length g.rc] 91,Cel cs #[.slice g.sa g.y.length g.sc] 27,Cel ce #[.int .i64 0] 43,Sl g.ra g.rc 22 1 TSl.cells g.l,QB g.l,Sl g.sa g.sc 47 107 TSt.cells g.y]
theorem okS_eq {g:RdG}{x:List Int}{s:TSt}{e:Int}(h:getT x=(s,e)):okS g.ac x=!((e != 0) || decide ((g.y.length:Int) ≥ 65536)):=by
 unfold okS RdG.ac
 rw [h,List.length_map,← g.h]
 by_cases a:e=0<;>by_cases b:g.y.length<65536<;>simp [a,b]<;>omega
def BXr (b cn cr cs ce:Nat) (r:Loop) (_:RdG):Asn:=ands [Blk b (.loop { r with state:=.done,pending:=some .ret }),Cel cn #[.int .i64 0] 3,Cel cr #[.slice none 0 0] 91,Cel cs #[.slice none 0 0] 27,Cel ce #[.int .i64 5] 43]
def runP (b:List Int):Option (Int×List (List Int)) :=
 if (byteP (b,false)).1<3∨(byteP (b,false)).1>11∨(byteP (b,false)).1 % 2=0 then none else
 if (ptP ((byteP (b,false)).2.1.length+1) (byteP (b,false)).2 []).2.1=true∨(ptP ((byteP (b,false)).2.1.length+1) (byteP (b,false)).2 []).2.2.2=true then none else
 some ((byteP (b,false)).1,(ptP ((byteP (b,false)).2.1.length+1) (byteP (b,false)).2 []).1)
theorem runP_no {b:List Int}{v:Int}{s:CS}(h:byteP (b,false)=(v,s)) (hv:v<3∨v>11∨v % 2=0):runP b=none:=if_pos (by rw [h];exact hv)
theorem runP_bad {b r:List Int}{v:Int}{sp:Bool}(h:byteP (b,false)=(v,(r,sp))) (hp:(ptP (r.length+1) (r,sp) []).2.1=true∨(ptP (r.length+1) (r,sp) []).2.2.2=true):runP b=none:=by
 unfold runP
 rw [h]
 simp only [if_pos hp,ite_self]
theorem runP_is {b r:List Int}{v:Int}{sp:Bool}{l:List (List Int)}{c:CS}(h:byteP (b,false)=(v,(r,sp))) (hv:¬ (v<3∨v>11∨v % 2=0)) (hp:ptP (r.length+1) (r,sp) []=(l,false,c)) (hc:c.2=false):runP b=some (v,l):=by
 unfold runP
 rw [h]
 simp only [hp,if_neg hv,hc,Bool.false_eq_true,or_self,if_false]
theorem parts_spec (hs:St w0 (L) w):Cs Tryz.prog 46 #[zP c 0] w fun rv w'=>∃ bb,rv=.func (.func 75) #[] #[zP bb 0]∧St w0 ((Cel bb #[zP c 0] 116)::L) w':=by
 exact Zen Tryz.func46 Tryz.ntmps46 (En (Ls (Lg [0] (Dz (Zbx (zP c 0) #[zP c 0] hs fun a d b=>Lz (Lq (Le (Dz (Zq1 (v:=.func (.func 75) #[] #[zP a 0]) ⟨a,rfl,b⟩)))))))))
theorem read_spec (b:List Int) (hsome:Som ad cb) (hbl:b.length≤1000000) (hbb:Byt b) (hr:Rw w0 L byteC 1 0 ad b) (hs:St w0 (L) w):Cs Tryz.prog 28 #[.slice ad b.length cb] w fun rv w'=>(rv=.tuple #[.int .i64 0,.slice none 0 0,.slice none 0 0,.int .i64 5]∧runP b=none∧St w0 (L) w')∨(∃ (nn2:Int) (ls2:List TSl) (ra2:Option Addr) (rc2:Nat) (ys2:List TSt) (sa2:Option Addr) (sc2:Nat),rv=.tuple #[.int .i64 nn2,.slice ra2 ls2.length rc2,.slice sa2 ys2.length sc2,.int .i64 0]∧runP b=some (nn2,ls2.map TSl.pl)∧St w0 ((Sl ra2 rc2 22 1 TSl.cells ls2)::(QB ls2)::L) w'):=by
 refine enterM (args:=[.slice ad b.length cb]) Tryz.func28 rfl Tryz.ntmps28 (Nat.le_of_ble_eq_true (by kernel_rfl)) (Zn [(0,.slice ad b.length cb)] (En (Ls (Lg [0,1,2,3] (Dz (Zal (.int .i64 0) #[.int .i64 0] hs fun b1 w2 i1=>Lo (Dz (Zal (.slice none 0 0) #[.slice none 0 0] i1 fun u w5 i2=>Lo (Dz (Zal (.slice none 0 0) #[.slice none 0 0] i2 fun q w8 i3=>Lo (Dz (Zal (.int .i64 0) #[.int .i64 0] i3 fun a0 t0 i4=>Lo (Ld (Lt (Ls (Lg [1] (Lw (Zc (cutNew_spec b (by first|assumption|omega) (by first|assumption|omega) (fun w h=>hr _ (h.drop 4)) i4) ?_))))))))))))))))))
 rintro t1 t2 ⟨a2,a3,a4,rfl,e7⟩
 have i5:CutOK (Sl a3 a4 5 1 byteC b) a3 b a4:=CutOK.new e7 (j:=1) rfl hbb hbl
 refine Lz (Ls (Lg [1,3] (Lw (Zqa (f:=45) (args:=#[zP a2 0]) Tryz.call45 (cutByteN_spec (Sl a3 a4 5 1 byteC b) b false (fun w h=>h.at_ 0 rfl) i5 e7) ?_))))
 rintro t3 t4 ⟨i,d4,d5,e8,e9,rfl,d0,i6,i7⟩
 refine Zoj (Hwi 2 (i:Nat) Hz) (Zu 5 0 #[.int .i64 (i:Nat)] i7 fun t5 a7=>Lo (Ld (Lt (Ls (Ls (Dz (GoC.join (T:=Unit) (E:=fun _=>[(25,.bool (((decide ((i:Int)<3)) || (decide ((i:Int)>11))) || ((((i:Nat) % 2):Int) == 0))),(6,zP a2 0),(5,zP a0 0),(4,zP q 0),(3,zP u 0),(2,zP b1 0)]) (F:=fun _ w=>St w0 ((Cel a2 #[.slice e8 d4.length e9,.bool d5] 150)::(Sl a3 a4 5 1 byteC b)::(Cel a0 #[.int .i64 0] 43)::(Cel q #[.slice none 0 0] 27)::(Cel u #[.slice none 0 0] 91)::(Cel b1 #[.int .i64 (i:Nat)] 3)::L) w) ?_ ?_)))))))
 ·refine Zg [] (Zpj 0 3 (Hl 0 5 0 a7 Hz) (Zsq 17 (decide ((i:Int)<3)) (fun a8=>?_) (fun a8=>?_)))
  ·exact En (Lud (Dz (Zmb [25,6,5,4,3,2] () true (by first|rfl|simp [Hb,a8]) a7)))
  ·refine Zpj 3 4 (Hl 3 5 0 a7 Hz) (Zsq 21 (decide ((i:Int)>11)) (fun b2=>?_) (fun b2=>?_))
   ·exact En (Lud (Dz (Zmb [25,6,5,4,3,2] () true (by first|rfl|simp [Hb,a8,b2]) a7)))
   ·exact Zjd (Hl 7 5 0 a7 (Hg 8 (.div ((i:Nat) % 2)) [.prop (IntKind.i64=IntKind.i64∧(2:Int)≠0∧Int.tmod (i:Nat) 2=(i:Nat) % 2)] (okp ⟨rfl,by decide,Int.tmod_eq_emod_of_nonneg (by first|omega|exact Int.natCast_nonneg _)⟩ ok0) Hz)) (Zmb [25,6,5,4,3,2] () ((((i:Nat) % 2):Int) == 0) (by first|rfl|simp [Hb,a8,b2]) a7)
 intro _ t6 f0
 refine Zt (Zqc (t:=((decide ((i:Int)<3)) || (decide ((i:Int)>11))) || ((((i:Nat) % 2):Int) == 0)) (fun b3=>?_) (fun b3=>?_))
 ·have hnv:(i:Int)<3∨(i:Int)>11∨(i:Int) % 2=0:=by simp only [Bool.or_eq_true,Bool.or_eq_false_iff,decide_eq_true_eq,decide_eq_false_iff_not,beq_iff_eq,beq_eq_false_iff_ne] at b3;omega
  exact En (Ls (Lg [0,1,2,3] (Dz (Zu 5 0 #[.int .i64 0] f0 fun t7 j0=>Lo (Dz (Zu 4 0 #[.slice none 0 0] j0 fun t8 j1=>Lo (Dz (Zu 3 0 #[.slice none 0 0] j1 fun t9 j2=>Lo (Dz (Zu 2 0 #[.int .i64 5] j2 fun u0 b5=>Lo (Ld (Lt (Le (Ly (Dz (GoQ.doneM (.inl rfl) (v:=.tuple #[.int .i64 0,.slice none 0 0,.slice none 0 0,.int .i64 5]) (fun a hf=>results4 rfl (ResC.of (by kernel_rfl) (by kernel_rfl) (by kernel_rfl) (b5.cell 5 rfl (by kernel_rfl))) (ResC.of (by kernel_rfl) (by kernel_rfl) (by kernel_rfl) (b5.cell 4 rfl (by kernel_rfl))) (ResC.of (by kernel_rfl) (by kernel_rfl) (by kernel_rfl) (b5.cell 3 rfl (by kernel_rfl))) (ResC.of (by kernel_rfl) (by kernel_rfl) (by kernel_rfl) (b5.cell 2 rfl (by kernel_rfl))) a hf) (.inl ⟨rfl,(runP_no d0.1 hnv),(b5.dr 6)⟩)))))))))))))))))
 ·have f1:=(Bool.or_eq_false_iff.1 b3).1
  have h36aa:=(Bool.or_eq_false_iff.1 f1).1
  have h36aa':=of_decide_eq_false h36aa
  have h36ab:=(Bool.or_eq_false_iff.1 f1).2
  have h36ab':=of_decide_eq_false h36ab
  have j4:=(Bool.or_eq_false_iff.1 b3).2
  have u1:=ieqF j4
  have hnv:¬ ((i:Int)<3∨(i:Int)>11∨(i:Int) % 2=0):=by simp only [Bool.or_eq_true,Bool.or_eq_false_iff,decide_eq_true_eq,decide_eq_false_iff_not,beq_iff_eq,beq_eq_false_iff_ne] at b3;omega
  refine En (Lk (Lt (Ls (Ls (Lg [1] (Lw (Zqa (f:=46) (args:=#[zP a2 0]) Tryz.call46 (parts_spec f0) ?_)))))))
  rintro u2 u3 ⟨b6,rfl,j5⟩
  refine Lo (Ld (Lt (Lb (Dz (GoC.range (f:=75) (fst:=#[]) (cap:=#[zP b6 0]) (by kernel_rfl) Tryz.call75 j5 fun b0 D0 r0 j6 hst hpd hps has hbd hft j7=>?_)))))
  have j8:=St.slNil j7 22 1 TSl.cells
  have j9:=St.slNil j8 47 107 TSt.cells
  have k0:=St.addNothing j9
  have k1:=((((((((((((k0.pl 4).pl 7).pl 6).pl 7).pl 5).pl 5).pl 6).pl 8).pl 9).pl 10).pl 11).pl 11)
  have k2:St w0 ((GXr b0 b1 u q a0 r0 (i:Nat) ⟨[],none,0,[],none,0,rfl⟩)::(Cel a2 #[.slice e8 d4.length e9,.bool d5] 150)::(Cel b6 #[zP a2 0] 116)::(Sl a3 a4 5 1 byteC b)::(Blk D0 (.deferred (some [])))::L) j6:=St.joins (l:=[_,_,_,_,_,_,_,_]) k1
  refine Calls.ret (P:=Tryz.prog) (f:=75) (args:=#[.func (.yield b0) #[] #[],zP b6 0]) (parts1_spec RdG b0 RdG.ac (GXr b0 b1 u q a0 r0 (i:Nat)) (BXr b0 b1 u q a0 r0) (Sl a3 a4 5 1 byteC b) d4 d5 ⟨[],none,0,[],none,0,rfl⟩ (fun w h=>h.at_ 0 rfl) i6 ?_ ((k2.pl 2).pl 2)) ?_
  ·intro t x ax cx L' w hx hbx hs
   have hth:=t.h
   have f2:St w0 ((Blk b0 (.loop r0))::(Cel b1 #[.int .i64 (i:Nat)] 3)::(Cel u #[.slice t.ra t.l.length t.rc] 91)::(Cel q #[.slice t.sa t.y.length t.sc] 27)::(Cel a0 #[.int .i64 0] 43)::(Sl t.ra t.rc 22 1 TSl.cells t.l)::(QB t.l)::(Sl t.sa t.sc 47 107 TSt.cells t.y)::(Sl ax cx 5 1 byteC x)::L') w:=(hs.pull 1 rfl).splits
   refine Yl.of f2 hps hft (by decide) ?_
   rw [has,hbd]
   refine GoC.pick [28,5,4,3,2] (S':=[(28,.slice ax x.length cx),(5,zP a0 0),(4,zP q 0),(3,zP u 0),(2,zP b1 0)]) (by kernel_rfl) (Za (GoQ.begin f2 hst fun u4 f3=>En (Lb (Ls (Lg [1,5,6] (Lw (Zc (getT_spec x (own_som f3 8 rfl) (by first|assumption|omega) hbx (fun w h=>h.rows 8 rfl (byteF).size _) f3) ?_)))))))
   rintro u5 u6 ⟨d,a5,rfl,f4,u7,u8,k4⟩
   refine Lo (Lw (Zag (TSt.cells dSt) k4 fun a1 u9 k5=>Lo (Dz (Zu 0 0 (TSt.cells d) k5 fun v0 d6=>Lz (Ls (Ls (Dz (GoC.join (T:=Unit) (E:=fun _=>[(40,.bool (((a5:Int) != 0) || (decide ((t.y.length:Int) ≥ 65536)))),(8,zP a1 0),(7,.slice ax x.length cx),(5,zP a0 0),(4,zP q 0),(3,zP u 0),(2,zP b1 0)]) (F:=fun _ w=>St w0 ((Cel a1 (TSt.cells d) 47)::(Sl d.pa d.pc 5 1 byteC d.pl)::(Sl d.bd.qa d.bd.qc 143 2 TPr.cells d.bd.ql)::(Sl d.pk.ma d.pk.mc 63 121 TMs.cells d.pk.ml)::(QS d.pk.ml)::(Blk b0 (.loop { r0 with state:=.busy }))::(Cel b1 #[.int .i64 (i:Nat)] 3)::(Cel u #[.slice t.ra t.l.length t.rc] 91)::(Cel q #[.slice t.sa t.y.length t.sc] 27)::(Cel a0 #[.int .i64 0] 43)::(Sl t.ra t.rc 22 1 TSl.cells t.l)::(QB t.l)::(Sl t.sa t.sc 47 107 TSt.cells t.y)::(Sl ax cx 5 1 byteC x)::L') w) ?_ ?_))))))))
   ·refine Zg [] (Zr 0 3 [] (Zsq 36 ((a5:Int) != 0) (fun b8=>?_) (fun b8=>?_)))
    ·exact En (Lud (Dz (Zmb [40,8,7,5,4,3,2] () true (by first|rfl|simp [Hb,b8]) d6)))
    ·exact Zjd (Hl 3 8 0 d6 Hz) (Zmb [40,8,7,5,4,3,2] () (decide ((t.y.length:Int) ≥ 65536)) (by first|rfl|simp [Hb,b8]) d6)
   intro _ v1 f5
   refine Zt (Zqc (t:=((a5:Int) != 0) || (decide ((t.y.length:Int) ≥ 65536))) (fun b9=>?_) (fun b9=>?_))
   ·refine En (Ls (Lg [0,1,2,3] (Dz (Zu 6 0 #[.int .i64 0] f5 fun v2 k7=>Lo (Dz (Zu 7 0 #[.slice none 0 0] k7 fun v3 k8=>Lo (Dz (Zu 8 0 #[.slice none 0 0] k8 fun v4 k9=>Lo (Dz (Zu 9 0 #[.int .i64 5] k9 fun v5 l0=>Lo (Ld (Lt (Le (Ly (Ll (Dz (GoQ.off (l0.pl 5) fun v6 l2=>?_)))))))))))))))))
    have l3:=((((((((((((((l2.pl 9).pl 9).pl 9).pl 9).pl 4).pl 13).pl 13).pl 13).pl 13).pl 13).pl 13).pl 13).pl 13).pl 13)
    exact .inr ⟨t,rfl,(by rw [okS_eq f4,b9];rfl),St.joins (l:=[_,_,_,_,_]) (l3.dr 9)⟩
   ·have l5:=(Bool.or_eq_false_iff.1 b9).1
    have v7:=ineF l5
    have l6:=(Bool.or_eq_false_iff.1 b9).2
    have v8:=of_decide_eq_false l6
    refine Zk (Zt (GoC.join (T:=Option Addr×Nat×Nat×Option Addr×Nat×Nat) (E:=fun jx=>[]) (F:=fun jx w=>St w0 ((Sl jx.1 jx.2.1 47 107 TSt.cells (t.y++([(d:TSt)])))::(Sl (some ⟨jx.2.2.1,0,none⟩) 1 47 107 TSt.cells ([(d:TSt)]))::(Sl jx.2.2.2.1 jx.2.2.2.2.1 22 1 TSl.cells (t.l++([((⟨ax,cx,x⟩:TSl):TSl)])))::(Sl (some ⟨jx.2.2.2.2.2,0,none⟩) 1 22 1 TSl.cells ([((⟨ax,cx,x⟩:TSl):TSl)]))::(Cel a1 (TSt.cells d) 47)::(Sl d.pa d.pc 5 1 byteC d.pl)::(Sl d.bd.qa d.bd.qc 143 2 TPr.cells d.bd.ql)::(Sl d.pk.ma d.pk.mc 63 121 TMs.cells d.pk.ml)::(QS d.pk.ml)::(Blk b0 (.loop { r0 with state:=.busy }))::(Cel b1 #[.int .i64 (i:Nat)] 3)::(Cel u #[.slice jx.2.2.2.1 ((t.l++([((⟨ax,cx,x⟩:TSl):TSl)])).length) jx.2.2.2.2.1] 91)::(Cel q #[.slice jx.1 ((t.y++([(d:TSt)])).length) jx.2.1] 27)::(Cel a0 #[.int .i64 0] 43)::(QB t.l)::(Sl ax cx 5 1 byteC x)::L') w) ?_ ?_))
    ·refine GoC.regD [0,0,2,7,0,0,32,127,255,511] (.rd 0 (.rd 1 (.rd 4 (.rd 5 (.alt (.ef 2 (.alt (.ef 3 (.ef 6 (.ef 7 (.ef 8 (.ef 9 .done))))) (.ef 6 (.ef 3 (.ef 7 (.ef 8 (.ef 9 .done))))))) (.ef 6 (.ef 2 (.ef 3 (.ef 7 (.ef 8 (.ef 9 .done))))))))))) (by kernel_rfl) (by kernel_rfl) RP.noPan (by kernel_rfl) f5 fun v9 c0 w1=>Zh [(0,.gen [.slice t.ra t.l.length t.rc]),(1,.gen []),(4,.gen [.slice t.sa t.y.length t.sc]),(5,.agg (TSt.cells d))] [(0,[.cell ⟨u,0,none⟩ (.slice t.ra t.l.length t.rc)]),(4,[.cell ⟨q,0,none⟩ (.slice t.sa t.y.length t.sc)]),(5,[.prop (Array.size (TSt.cells d)=107),.cells ⟨a1,0,none⟩ (TSt.cells d)])] (ak (okc (c0.cell 7 rfl (by kernel_rfl)) ok0) (ak (okc (c0.cell 8 rfl (by kernel_rfl)) ok0) (ak (okp (by kernel_rfl) (oka (c0.cells 0 0 rfl (by kernel_rfl)) ok0)) ak0))) (GoR.alt ?_ ?_)
     ·refine GoR.sliceLit rfl (by kernel_rfl) (t:=91) (e:=22) (n:=1) (ps:=[(0,.slice ax x.length cx)]) (by kernel_rfl) (by kernel_rfl) (ti:=Tryz.t22) (z:=.slice none 0 0) (by kernel_rfl) (by kernel_rfl) (by decide) (by decide) (cs:=#[.slice ax x.length cx]) (by kernel_rfl) c0 fun a9 l7 l8 l9=>?_
      have c1:St w0 ((Sl (some ⟨a9,0,none⟩) 1 22 1 TSl.cells ([((⟨ax,cx,x⟩:TSl):TSl)]))::(Cel a1 (TSt.cells d) 47)::(Sl d.pa d.pc 5 1 byteC d.pl)::(Sl d.bd.qa d.bd.qc 143 2 TPr.cells d.bd.ql)::(Sl d.pk.ma d.pk.mc 63 121 TMs.cells d.pk.ml)::(QS d.pk.ml)::(Blk b0 (.loop { r0 with state:=.busy }))::(Cel b1 #[.int .i64 (i:Nat)] 3)::(Cel u #[.slice t.ra t.l.length t.rc] 91)::(Cel q #[.slice t.sa t.y.length t.sc] 27)::(Cel a0 #[.int .i64 0] 43)::(Sl t.ra t.rc 22 1 TSl.cells t.l)::(QB t.l)::(Sl t.sa t.sc 47 107 TSt.cells t.y)::(Sl ax cx 5 1 byteC x)::L') l7:=St.slOf (l:=[((⟨ax,cx,x⟩:TSl):TSl)]) (f:=TSl.cells) l8 l9 (dSlF).size (by simp only [lC,lN,maxLen];omega) (by kernel_rfl)
      refine⟨(opl (n:=[.prop (Array.size (TSt.cells d)=107),.cells ⟨a1,0,none⟩ (TSt.cells d),.cell ⟨q,0,none⟩ (.slice t.sa t.y.length t.sc),.cell ⟨u,0,none⟩ (.slice t.ra t.l.length t.rc)]) (by kernel_rfl) (okp (by kernel_rfl) (oka (c1.cells 1 0 rfl (by kernel_rfl)) (okc (c1.cell 9 rfl (by kernel_rfl)) (okc (c1.cell 8 rfl (by kernel_rfl)) ok0))))),(GoR.alt ?_ ?_)⟩
      ·refine Zap slsOK dSlF dSl (c1.pl 11) (by simp only [lA,lC,lN,List.length_map] at *;omega) fun d7 d8 w3 d9=>⟨(opl (n:=[.prop (Array.size (TSt.cells d)=107),.cells ⟨a1,0,none⟩ (TSt.cells d),.cell ⟨q,0,none⟩ (.slice t.sa t.y.length t.sc)]) (by kernel_rfl) (okp (by kernel_rfl) (oka (d9.cells 2 0 rfl (by kernel_rfl)) (okc (d9.cell 10 rfl (by kernel_rfl)) ok0)))),(GoR.sliceLit rfl (by kernel_rfl) (t:=27) (e:=47) (n:=1) (ps:=[(0,.agg (TSt.cells d))]) (by kernel_rfl) (by kernel_rfl) (ti:=Tryz.t47) (z:=.agg (TSt.cells dSt)) (by kernel_rfl) (by kernel_rfl) (by decide) (by decide) (cs:=TSt.cells d) (by kernel_rfl) d9 fun f6 m1 m2 m3=>?_)⟩
       have e0:St w0 ((Sl (some ⟨f6,0,none⟩) 1 47 107 TSt.cells ([(d:TSt)]))::(Sl d7 d8 22 1 TSl.cells (t.l++([((⟨ax,cx,x⟩:TSl):TSl)])))::(Sl (some ⟨a9,0,none⟩) 1 22 1 TSl.cells ([((⟨ax,cx,x⟩:TSl):TSl)]))::(Cel a1 (TSt.cells d) 47)::(Sl d.pa d.pc 5 1 byteC d.pl)::(Sl d.bd.qa d.bd.qc 143 2 TPr.cells d.bd.ql)::(Sl d.pk.ma d.pk.mc 63 121 TMs.cells d.pk.ml)::(QS d.pk.ml)::(Blk b0 (.loop { r0 with state:=.busy }))::(Cel b1 #[.int .i64 (i:Nat)] 3)::(Cel u #[.slice t.ra t.l.length t.rc] 91)::(Cel q #[.slice t.sa t.y.length t.sc] 27)::(Cel a0 #[.int .i64 0] 43)::(QB t.l)::(Sl t.sa t.sc 47 107 TSt.cells t.y)::(Sl ax cx 5 1 byteC x)::L') m1:=St.slOf (l:=[(d:TSt)]) (f:=TSt.cells) m2 m3 (dStF).size (by simp only [lC,lN,maxLen];omega) (by kernel_rfl)
       exact⟨(opl (n:=[.cell ⟨q,0,none⟩ (.slice t.sa t.y.length t.sc),.cell ⟨u,0,none⟩ (.slice t.ra t.l.length t.rc)]) (by kernel_rfl) (okc (e0.cell 11 rfl (by kernel_rfl)) (okc (e0.cell 10 rfl (by kernel_rfl)) ok0))),(Zap stsOK dStF dSt (e0.pl 14) (by simp only [lA,lC,lN,List.length_map] at *;omega) fun f7 f8 w4 m5=>Lo (Dz (Zu 11 0 #[.slice d7 ((t.l++([((⟨ax,cx,x⟩:TSl):TSl)])).length) d8] m5 fun w6 m6=>Lo (Dz (Zu 12 0 #[.slice f7 ((t.y++([(d:TSt)])).length) f8] m6 fun w7 m7=>Lo (Ld (Dz (Zme [] (f7,f8,f6,d7,d8,a9) m7))))))))⟩
      refine GoR.sliceLit rfl (by kernel_rfl) (t:=27) (e:=47) (n:=1) (ps:=[(0,.agg (TSt.cells d))]) (by kernel_rfl) (by kernel_rfl) (ti:=Tryz.t47) (z:=.agg (TSt.cells dSt)) (by kernel_rfl) (by kernel_rfl) (by decide) (by decide) (cs:=TSt.cells d) (by kernel_rfl) c1 fun e1 m8 m9 n0=>?_
      have e2:St w0 ((Sl (some ⟨e1,0,none⟩) 1 47 107 TSt.cells ([(d:TSt)]))::(Sl (some ⟨a9,0,none⟩) 1 22 1 TSl.cells ([((⟨ax,cx,x⟩:TSl):TSl)]))::(Cel a1 (TSt.cells d) 47)::(Sl d.pa d.pc 5 1 byteC d.pl)::(Sl d.bd.qa d.bd.qc 143 2 TPr.cells d.bd.ql)::(Sl d.pk.ma d.pk.mc 63 121 TMs.cells d.pk.ml)::(QS d.pk.ml)::(Blk b0 (.loop { r0 with state:=.busy }))::(Cel b1 #[.int .i64 (i:Nat)] 3)::(Cel u #[.slice t.ra t.l.length t.rc] 91)::(Cel q #[.slice t.sa t.y.length t.sc] 27)::(Cel a0 #[.int .i64 0] 43)::(Sl t.ra t.rc 22 1 TSl.cells t.l)::(QB t.l)::(Sl t.sa t.sc 47 107 TSt.cells t.y)::(Sl ax cx 5 1 byteC x)::L') m8:=St.slOf (l:=[(d:TSt)]) (f:=TSt.cells) m9 n0 (dStF).size (by simp only [lC,lN,maxLen];omega) (by kernel_rfl)
      refine⟨(opl (n:=[.cell ⟨q,0,none⟩ (.slice t.sa t.y.length t.sc),.cell ⟨u,0,none⟩ (.slice t.ra t.l.length t.rc)]) (by kernel_rfl) (okc (e2.cell 10 rfl (by kernel_rfl)) (okc (e2.cell 9 rfl (by kernel_rfl)) ok0))),?_⟩
      have f9:=(e2.pl 12)
      refine GoR.append rfl (by kernel_rfl) slsOK dSlF (ad:=t.ra) (c:=t.rc) (xs:=t.l) (ys:=[((⟨ax,cx,x⟩:TSl):TSl)]) (adx:=some ⟨a9,0,none⟩) (cx:=1) dSl (by kernel_rfl) f9 (f9.rows 2 rfl (dSlF).size dSl) (fun h=>nomatch h) (by simp only [lA,lC,lN,List.length_map] at *;omega) (by simp only [lA,lC,lN,List.length_map] at *;omega) fun g0 g5 w9 e3=>⟨(opl (n:=[.prop (Array.size (TSt.cells d)=107),.cells ⟨a1,0,none⟩ (TSt.cells d),.cell ⟨q,0,none⟩ (.slice t.sa t.y.length t.sc)]) (by kernel_rfl) (okp (by kernel_rfl) (oka (e3.cells 3 0 rfl (by kernel_rfl)) (okc (e3.cell 11 rfl (by kernel_rfl)) ok0)))),?_⟩
      have g7:=(e3.pl 14)
      exact GoR.append rfl (by kernel_rfl) stsOK dStF (ad:=t.sa) (c:=t.sc) (xs:=t.y) (ys:=[(d:TSt)]) (adx:=some ⟨e1,0,none⟩) (cx:=1) dSt (by kernel_rfl) g7 (g7.rows 2 rfl (dStF).size dSt) (fun h=>nomatch h) (by simp only [lA,lC,lN,List.length_map] at *;omega) (by simp only [lA,lC,lN,List.length_map] at *;omega) fun g8 g9 x0 n1=>Lo (Dz (Zu 11 0 #[.slice g0 ((t.l++([((⟨ax,cx,x⟩:TSl):TSl)])).length) g5] n1 fun x1 n2=>Lo (Dz (Zu 12 0 #[.slice g8 ((t.y++([(d:TSt)])).length) g9] n2 fun x2 n3=>Lo (Ld (Dz (Zme [] (g8,g9,e1,g0,g5,a9) ((((((((((((((((n3.pl 15).pl 15).pl 15).pl 15).pl 15).pl 15).pl 15).pl 15).pl 15).pl 15).pl 15).pl 15).pl 15).pl 14).pl 15).pl 15))))))))
     refine GoR.sliceLit rfl (by kernel_rfl) (t:=27) (e:=47) (n:=1) (ps:=[(0,.agg (TSt.cells d))]) (by kernel_rfl) (by kernel_rfl) (ti:=Tryz.t47) (z:=.agg (TSt.cells dSt)) (by kernel_rfl) (by kernel_rfl) (by decide) (by decide) (cs:=TSt.cells d) (by kernel_rfl) c0 fun d1 n5 n6 n7=>?_
     have e4:St w0 ((Sl (some ⟨d1,0,none⟩) 1 47 107 TSt.cells ([(d:TSt)]))::(Cel a1 (TSt.cells d) 47)::(Sl d.pa d.pc 5 1 byteC d.pl)::(Sl d.bd.qa d.bd.qc 143 2 TPr.cells d.bd.ql)::(Sl d.pk.ma d.pk.mc 63 121 TMs.cells d.pk.ml)::(QS d.pk.ml)::(Blk b0 (.loop { r0 with state:=.busy }))::(Cel b1 #[.int .i64 (i:Nat)] 3)::(Cel u #[.slice t.ra t.l.length t.rc] 91)::(Cel q #[.slice t.sa t.y.length t.sc] 27)::(Cel a0 #[.int .i64 0] 43)::(Sl t.ra t.rc 22 1 TSl.cells t.l)::(QB t.l)::(Sl t.sa t.sc 47 107 TSt.cells t.y)::(Sl ax cx 5 1 byteC x)::L') n5:=St.slOf (l:=[(d:TSt)]) (f:=TSt.cells) n6 n7 (dStF).size (by simp only [lC,lN,maxLen];omega) (by kernel_rfl)
     refine⟨(opl (n:=[.cell ⟨q,0,none⟩ (.slice t.sa t.y.length t.sc),.cell ⟨u,0,none⟩ (.slice t.ra t.l.length t.rc)]) (by kernel_rfl) (okc (e4.cell 9 rfl (by kernel_rfl)) (okc (e4.cell 8 rfl (by kernel_rfl)) ok0))),(GoR.sliceLit rfl (by kernel_rfl) (t:=91) (e:=22) (n:=1) (ps:=[(0,.slice ax x.length cx)]) (by kernel_rfl) (by kernel_rfl) (ti:=Tryz.t22) (z:=.slice none 0 0) (by kernel_rfl) (by kernel_rfl) (by decide) (by decide) (cs:=#[.slice ax x.length cx]) (by kernel_rfl) e4 fun h0 n8 n9 o0=>?_)⟩
     have d2:St w0 ((Sl (some ⟨h0,0,none⟩) 1 22 1 TSl.cells ([((⟨ax,cx,x⟩:TSl):TSl)]))::(Sl (some ⟨d1,0,none⟩) 1 47 107 TSt.cells ([(d:TSt)]))::(Cel a1 (TSt.cells d) 47)::(Sl d.pa d.pc 5 1 byteC d.pl)::(Sl d.bd.qa d.bd.qc 143 2 TPr.cells d.bd.ql)::(Sl d.pk.ma d.pk.mc 63 121 TMs.cells d.pk.ml)::(QS d.pk.ml)::(Blk b0 (.loop { r0 with state:=.busy }))::(Cel b1 #[.int .i64 (i:Nat)] 3)::(Cel u #[.slice t.ra t.l.length t.rc] 91)::(Cel q #[.slice t.sa t.y.length t.sc] 27)::(Cel a0 #[.int .i64 0] 43)::(Sl t.ra t.rc 22 1 TSl.cells t.l)::(QB t.l)::(Sl t.sa t.sc 47 107 TSt.cells t.y)::(Sl ax cx 5 1 byteC x)::L') n8:=St.slOf (l:=[((⟨ax,cx,x⟩:TSl):TSl)]) (f:=TSl.cells) n9 o0 (dSlF).size (by simp only [lC,lN,maxLen];omega) (by kernel_rfl)
     refine⟨(opl (n:=[.prop (Array.size (TSt.cells d)=107),.cells ⟨a1,0,none⟩ (TSt.cells d),.cell ⟨q,0,none⟩ (.slice t.sa t.y.length t.sc),.cell ⟨u,0,none⟩ (.slice t.ra t.l.length t.rc)]) (by kernel_rfl) (okp (by kernel_rfl) (oka (d2.cells 2 0 rfl (by kernel_rfl)) (okc (d2.cell 10 rfl (by kernel_rfl)) (okc (d2.cell 9 rfl (by kernel_rfl)) ok0))))),(Zap slsOK dSlF dSl (d2.pl 12) (by simp only [lA,lC,lN,List.length_map] at *;omega) fun h1 h2 x3 e5=>⟨(opl (n:=[.prop (Array.size (TSt.cells d)=107),.cells ⟨a1,0,none⟩ (TSt.cells d),.cell ⟨q,0,none⟩ (.slice t.sa t.y.length t.sc)]) (by kernel_rfl) (okp (by kernel_rfl) (oka (e5.cells 3 0 rfl (by kernel_rfl)) (okc (e5.cell 11 rfl (by kernel_rfl)) ok0)))),?_⟩)⟩
     have h3:=(e5.pl 14)
     exact GoR.append rfl (by kernel_rfl) stsOK dStF (ad:=t.sa) (c:=t.sc) (xs:=t.y) (ys:=[(d:TSt)]) (adx:=some ⟨d1,0,none⟩) (cx:=1) dSt (by kernel_rfl) h3 (h3.rows 3 rfl (dStF).size dSt) (fun h=>nomatch h) (by simp only [lA,lC,lN,List.length_map] at *;omega) (by simp only [lA,lC,lN,List.length_map] at *;omega) fun h4 h5 x4 o2=>Lo (Dz (Zu 11 0 #[.slice h1 ((t.l++([((⟨ax,cx,x⟩:TSl):TSl)])).length) h2] o2 fun x5 o3=>Lo (Dz (Zu 12 0 #[.slice h4 ((t.y++([(d:TSt)])).length) h5] o3 fun x6 o4=>Lo (Ld (Dz (Zme [] (h4,h5,d1,h1,h2,h0) ((((((((((((((((o4.pl 15).pl 15).pl 15).pl 15).pl 15).pl 15).pl 15).pl 15).pl 15).pl 15).pl 15).pl 15).pl 14).pl 14).pl 15).pl 15))))))))
    rintro⟨c2,c3,o6,c4,c5,o7⟩ o8 o9
    have p0:St w0 ((Sl c2 c3 47 107 TSt.cells (t.y++([(d:TSt)])))::(Sl (some ⟨o6,0,none⟩) 1 47 107 TSt.cells ([(d:TSt)]))::(Sl c4 c5 22 1 TSl.cells (t.l++([((⟨ax,cx,x⟩:TSl):TSl)])))::(Sl (some ⟨o7,0,none⟩) 1 22 1 TSl.cells ([((⟨ax,cx,x⟩:TSl):TSl)]))::(Cel a1 (TSt.cells d) 47)::(Sl d.pa d.pc 5 1 byteC d.pl)::(Sl d.bd.qa d.bd.qc 143 2 TPr.cells d.bd.ql)::(Sl d.pk.ma d.pk.mc 63 121 TMs.cells d.pk.ml)::(QS d.pk.ml)::(Blk b0 (.loop { r0 with state:=.busy }))::(Cel b1 #[.int .i64 (i:Nat)] 3)::(Cel u #[.slice c4 ((t.l++([((⟨ax,cx,x⟩:TSl):TSl)])).length) c5] 91)::(Cel q #[.slice c2 ((t.y++([(d:TSt)])).length) c3] 27)::(Cel a0 #[.int .i64 0] 43)::(QB t.l)::(Sl ax cx 5 1 byteC x)::L') o8:=o9
    refine GoQ.slots (S':=[]) rfl (Zm (GoQ.on hst hpd (p0.pl 9) fun p2 p3=>?_))
    have p4:=((((((((((((((((p3.pl 1).pl 3).pl 13).pl 13).pl 13).pl 13).pl 6).pl 14).pl 15).pl 15).pl 15).pl 15).pl 15).pl 15).pl 15).pl 15)
    have p5:=p4.dr 7
    have p6:St w0 ((QB (t.l++[(⟨ax,cx,x⟩:TSl)]))::(Blk b0 (.loop r0))::(Cel b1 #[.int .i64 (i:Nat)] 3)::(Cel u #[.slice c4 ((t.l++([((⟨ax,cx,x⟩:TSl):TSl)])).length) c5] 91)::(Cel q #[.slice c2 ((t.y++([(d:TSt)])).length) c3] 27)::(Cel a0 #[.int .i64 0] 43)::(Sl c4 c5 22 1 TSl.cells (t.l++([((⟨ax,cx,x⟩:TSl):TSl)])))::(Sl c2 c3 47 107 TSt.cells (t.y++([(d:TSt)])))::L') p2:=by rw [QB_app];exact St.join p5
    exact .inl ⟨⟨(t.l++[(⟨ax,cx,x⟩:TSl)]),c4,c5,t.y++([(d:TSt)]),c2,c3,by simp [t.h]⟩,rfl,(by rw [okS_eq f4,b9];rfl),by simp [RdG.ac],St.joins (l:=[_,_,_,_,_,_,_,_]) ((((((((p6.pl 7).pl 1).pl 7).pl 7).pl 7).pl 7).pl 7).pl 7)⟩
  ·rintro x7 h6 (⟨o,h7,a6,p8,p9,rfl,h8,x8,q0⟩|⟨x9,q1,q2,q3,q4,rfl,q5,y0,q6⟩)
   ·have q7:St w0 ((Blk b0 (.loop r0))::(Cel b1 #[.int .i64 (i:Nat)] 3)::(Cel u #[.slice o.ra o.l.length o.rc] 91)::(Cel q #[.slice o.sa o.y.length o.sc] 27)::(Cel a0 #[.int .i64 0] 43)::(Sl o.ra o.rc 22 1 TSl.cells o.l)::(QB o.l)::(Sl o.sa o.sc 47 107 TSt.cells o.y)::(Cel a2 #[.slice p8 h7.length p9,.bool a6] 150)::(Cel b6 #[zP a2 0] 116)::(Sl a3 a4 5 1 byteC b)::(Blk D0 (.deferred (some [])))::L) h6:=(q0.pull 2 rfl).splits
    refine⟨r0,_,q7,(by rw [hst];nofun),.inl ⟨hpd,?_⟩⟩
    intro y1 q8
    refine En (Lm (Lt (Ls (Ls (Lg [1] (Lw (Zc1 (cutOk_spec h7 a6 (q8.pl 7)) fun y3 h9=>Lz (Dz (Zqc (t:=!(!a6)) (fun c6=>?_) (fun c6=>?_))))))))))
    ·have hbd:a6=true:=by simpa using c6
     exact En (Ls (Lg [0,1,2,3] (Dz (Zu 1 0 #[.int .i64 0] h9 fun y4 r5=>Lo (Dz (Zu 2 0 #[.slice none 0 0] r5 fun y5 r6=>Lo (Dz (Zu 3 0 #[.slice none 0 0] r6 fun y6 r7=>Lo (Dz (Zu 4 0 #[.int .i64 5] r7 fun y7 r8=>Lo (Ld (Lt (Le (Ly (Dz (GoQ.leave (r8.pl 10) fun y8 c7=>GoQ.doneM (.inl rfl) (v:=.tuple #[.int .i64 0,.slice none 0 0,.slice none 0 0,.int .i64 5]) (fun a hf=>results4 rfl (ResC.of (by kernel_rfl) (by kernel_rfl) (by kernel_rfl) (c7.cell 1 rfl (by kernel_rfl))) (ResC.of (by kernel_rfl) (by kernel_rfl) (by kernel_rfl) (c7.cell 2 rfl (by kernel_rfl))) (ResC.of (by kernel_rfl) (by kernel_rfl) (by kernel_rfl) (c7.cell 3 rfl (by kernel_rfl))) (ResC.of (by kernel_rfl) (by kernel_rfl) (by kernel_rfl) (c7.cell 4 rfl (by kernel_rfl))) a hf) (.inl ⟨rfl,(runP_bad d0.1 (.inr ((congrArg (fun z=>z.2.2.2) h8).trans hbd))),(c7.dr 10)⟩)))))))))))))))))
    ·have hbd:a6=false:=by simpa using c6
     refine Zk (Zt (Zs (GoC.regD [0,0,0,1,11,31,63] (.rd 0 (.rd 1 (.rd 2 (.ef 3 (.ef 4 (.ef 5 (.ef 6 .done))))))) (by kernel_rfl) (by kernel_rfl) BP.noPan (by kernel_rfl) h9 fun y9 d3 z0=>Zpj 0 3 (Hl 0 1 0 d3 (Hl 1 2 0 d3 (Hl 2 3 0 d3 Hz))) (Zu 1 0 #[.int .i64 (i:Nat)] d3 fun z1 e6=>⟨(opl (n:=[.cell ⟨q,0,none⟩ (.slice o.sa o.y.length o.sc),.cell ⟨u,0,none⟩ (.slice o.ra o.l.length o.rc)]) (by kernel_rfl) (okc (e6.cell 3 rfl (by kernel_rfl)) (okc (e6.cell 2 rfl (by kernel_rfl)) ok0))),(Zu 2 0 #[.slice o.ra o.l.length o.rc] e6 fun z2 i0=>⟨(opl (n:=[.cell ⟨q,0,none⟩ (.slice o.sa o.y.length o.sc)]) (by kernel_rfl) (okc (i0.cell 3 rfl (by kernel_rfl)) ok0)),(Zu 3 0 #[.slice o.sa o.y.length o.sc] i0 fun z3 s1=>Lo (Dz (Zu 4 0 #[.int .i64 0] s1 fun z4 s2=>Lo (Ld (Lt (Le (Dz (GoQ.leave (s2.pl 10) fun z5 c8=>GoQ.doneM (.inl rfl) (v:=.tuple #[.int .i64 (i:Nat),.slice o.ra o.l.length o.rc,.slice o.sa o.y.length o.sc,.int .i64 0]) (fun a hf=>results4 rfl (ResC.of (by kernel_rfl) (by kernel_rfl) (by kernel_rfl) (c8.cell 1 rfl (by kernel_rfl))) (ResC.of (by kernel_rfl) (by kernel_rfl) (by kernel_rfl) (c8.cell 2 rfl (by kernel_rfl))) (ResC.of (by kernel_rfl) (by kernel_rfl) (by kernel_rfl) (c8.cell 3 rfl (by kernel_rfl))) (ResC.of (by kernel_rfl) (by kernel_rfl) (by kernel_rfl) (c8.cell 4 rfl (by kernel_rfl))) a hf) ?_))))))))⟩)⟩))))
     have s4:=((((((((((c8.pl 6).pl 6).pl 9).pl 9).pl 9).pl 9).pl 9).pl 9).pl 9).pl 9)
     exact .inr (⟨(i:Nat),o.l,o.ra,o.rc,o.y,o.sa,o.sc,rfl,(runP_is d0.1 hnv h8 hbd),(s4.dr 8)⟩)
   ·have s6:St w0 ((Blk b0 (.loop { r0 with state:=.done,pending:=some .ret }))::(Cel b1 #[.int .i64 0] 3)::(Cel u #[.slice none 0 0] 91)::(Cel q #[.slice none 0 0] 27)::(Cel a0 #[.int .i64 5] 43)::(Cel a2 #[.slice q3 q1.length q4,.bool q2] 150)::(Cel b6 #[zP a2 0] 116)::(Sl a3 a4 5 1 byteC b)::(Blk D0 (.deferred (some [])))::L) h6:=(q6.pull 2 rfl).splits
    refine⟨{ r0 with state:=.done,pending:=some .ret },_,s6,(by nofun),.inr ⟨rfl,?_⟩⟩
    intro z6 s7
    exact Zl (Zy (GoQ.leave (s7.pl 7) fun z7 c9=>GoQ.doneM (.inl rfl) (v:=.tuple #[.int .i64 0,.slice none 0 0,.slice none 0 0,.int .i64 5]) (fun a hf=>results4 rfl (ResC.of (by kernel_rfl) (by kernel_rfl) (by kernel_rfl) (c9.cell 0 rfl (by kernel_rfl))) (ResC.of (by kernel_rfl) (by kernel_rfl) (by kernel_rfl) (c9.cell 1 rfl (by kernel_rfl))) (ResC.of (by kernel_rfl) (by kernel_rfl) (by kernel_rfl) (c9.cell 2 rfl (by kernel_rfl))) (ResC.of (by kernel_rfl) (by kernel_rfl) (by kernel_rfl) (c9.cell 3 rfl (by kernel_rfl))) a hf) (.inl ⟨rfl,(runP_bad d0.1 (.inl q5)),(c9.dr 7)⟩)))
end
section
variable {w0 w : World} {L : List Asn}
def runB (n:Int) (l:List (List Int)):List Int:=IntKind.u8.wrap n::l.flatMap loS
theorem runB_app (n:Int) (l:List (List Int)) (x:List Int):runB n (l++[x])=runB n l++loS x:=by
 unfold runB
 rw [List.flatMap_append,List.flatMap_cons,List.flatMap_nil,List.append_nil,List.cons_append]
theorem take_map_succ {α β:Type}{f:α→β}{l:List α}{d:α}{k:Nat}(h:k<l.length):(l.take (k+1)).map f=(l.take k).map f++[f (l.getD k d)]:=by
 rw [List.take_add_one,List.getElem?_eq_getElem h,List.map_append,List.getD_eq_getElem?_getD,List.getElem?_eq_getElem h]
 rfl
theorem runB_succ {α:Type}{f:α→List Int}{l:List α}{d:α}{n:Int}{k:Nat}(h:k<l.length):runB n ((l.take (k+1)).map f)=runB n ((l.take k).map f)++loS (f (l.getD k d)):=by
 rw [take_map_succ h,runB_app]
theorem runB_len (n:Int):∀ (l:List (List Int)),l.length≤(runB n l).length
 | []=>Nat.zero_le _
 | x::l=>by
  have h:=runB_len n l
  unfold runB at h ⊢
  rw [List.flatMap_cons]
  simp only [lC,lA,loS_length] at h ⊢
  omega
theorem runB_le {α:Type}{f:α→List Int}{l:List α}{n:Int}{k:Nat}:(runB n ((l.take k).map f)).length≤(runB n (l.map f)).length:=by
 have h:runB n (l.map f)=runB n ((l.take k).map f)++((l.drop k).map f).flatMap loS:=by
  unfold runB
  rw [List.cons_append,← List.flatMap_append,← List.map_append,List.take_append_drop]
 rw [h,lA]
 omega
theorem run_spec {ra:Option Addr}{rc:Nat}(n) (ls) (hps:∀ k,k<ls.length→(ls.getD k dSl).pl.length<65536∧((ls.getD k dSl).pa=none→(ls.getD k dSl).pc=0)∧Rw w0 L byteC 1 0 (ls.getD k dSl).pa (ls.getD k dSl).pl) (htl:(runB n (ls.map TSl.pl)).length≤800000) (hr:Rw w0 L TSl.cells 1 dSl ra ls) (hs:St w0 (L) w):Cs Tryz.prog 29 #[.int .i64 n,.slice ra ls.length rc] w fun rv w'=>∃ ao co,rv=.slice ao ((runB n (ls.map TSl.pl)).length) co∧St w0 ((Sl ao co 5 1 byteC (runB n (ls.map TSl.pl)))::L) w':=by
 refine Zen Tryz.func29 Tryz.ntmps29 (En (Lq (Ls (Lg [2] (Lw (Zll bytesOK byteF [(IntKind.u8.wrap n:Int)] hs fun e z a0=>Lz (Ls (Lq (Lb (Dz ?_))))))))))
 have a1:St w0 ((Sl (some ⟨e,0,none⟩) 1 5 1 byteC (runB n ((ls.take 0).map TSl.pl)))::L) z:=(by exact a0)
 refine Zn [(13,.int .i64 0),(12,.int .i64 (ls.length:Nat)),(11,.slice ra ls.length rc),(5,zL e 0 1 1),(4,.slice none 0 0)] (Zn [(13,.int .i64 0),(12,.int .i64 (ls.length:Nat)),(11,.slice ra ls.length rc),(5,zL e 0 ((runB n ((ls.take 0).map TSl.pl)).length) 1),(4,.slice none 0 0)] (GoC.loop (T:=Nat×(Option Addr)×(Option Addr)×Nat) (fun gg=>[(4,.slice none 0 0),(5,.slice gg.2.2.1 ((runB n ((ls.take gg.1).map TSl.pl)).length) gg.2.2.2),(11,.slice gg.2.1 ls.length rc),(12,.int .i64 (ls.length:Nat)),(13,.int .i64 (gg.1:Nat))]) (fun gg w=>(gg.1≤ls.length∧∀ w,St w0 L w→RowsAt w gg.2.1 ls.length 1 (fun q=>TSl.cells (ls.getD q dSl)))∧St w0 ((Sl gg.2.2.1 gg.2.2.2 5 1 byteC (runB n ((ls.take gg.1).map TSl.pl)))::L) w) (fun gg=>ls.length-gg.1) (0,ra,(some ⟨e,0,none⟩),1) [4,5,11,12,13] (by kernel_rfl) ⟨⟨Nat.zero_le _,hr⟩,a1⟩ ?_))
 rintro⟨k,aq,i,o⟩ w7 ⟨hp,a⟩
 dsimp only at hp a
 have hw:=hp.2
 refine En (Lq (Ls (Dz (Zi ((k:Int)<(ls.length:Nat)) (fun a2=>?_) (fun a2=>?_)))))
 ·have hk:k<ls.length:=by omega
  have hln:=runB_len n (ls.map TSl.pl)
  rw [List.length_map] at hln
  obtain⟨b,d,rfl⟩:=RowsAt.isSome (hw _ (a.drop 1)) (by omega)
  refine Zk (Zt (Zs (Zb (Zs (Zaj (Hx 0 (k:Int) (ls.length:Int) b d 1 (Hg 1 (.gen [.slice ((ls.getD k dSl).pa) ((ls.getD k dSl).pl.length) ((ls.getD k dSl).pc)]) [.cell ⟨b,d+(k*1),none⟩ (.slice ((ls.getD k dSl).pa) ((ls.getD k dSl).pl.length) ((ls.getD k dSl).pc))] (okc (RowsAt.at0 (hw _ (a.drop 1)) (k:=k) (by first|omega|(simp only [List.length_set];omega)|(simp only [List.length_set,lA,lC,lN];omega)) (j:=0) (by decide) (by kernel_rfl)) ok0) Hz)) (En (Lt (Lg [2] (Lw (Zc (long_spec (runB n ((ls.take k).map TSl.pl)) ((ls.getD k dSl).pl) (Nat.le_trans (runB_le (f:=TSl.pl) (l:=ls) (n:=n) (k:=k)) htl) (hps k hk).1 (hps k hk).2.1 (fun w h=>(hps k hk).2.2 w (h.drop 0)) a) ?_))))))))))
  rintro a6 a7 ⟨u,x,rfl,a3⟩
  exact Lo (Lud (Lm (Lt (Dz (Zaj (Hwi 0 ((k:Nat)+1) Hz) (GoQ.pick [13,5,4,11,12] (S':=[(13,.int .i64 ((k:Nat)+1)),(5,.slice u (((runB n ((ls.take k).map TSl.pl))++loS ((ls.getD k dSl).pl)).length) x),(4,.slice none 0 0),(11,zL b d ls.length rc),(12,.int .i64 (ls.length:Nat))]) (by kernel_rfl) (GoQ.slots (S':=[(13,.int .i64 ((k:Nat)+1)),(5,.slice u ((runB n ((ls.take (k+1)).map TSl.pl)).length) x),(4,.slice none 0 0),(11,zL b d ls.length rc),(12,.int .i64 (ls.length:Nat))]) (by rw [(show(runB n ((ls.take k).map TSl.pl))++loS ((ls.getD k dSl).pl)=runB n ((ls.take (k+1)).map TSl.pl) from(runB_succ hk).symm)]) (GoQ.back (k+1,some ⟨b,d,none⟩,u,x) [4,5,11,12,13] (by kernel_rfl) (by show ls.length-(k+1)<ls.length-k;omega) ⟨⟨by omega,hw⟩,(Zsr a3 (show(runB n ((ls.take k).map TSl.pl))++loS ((ls.getD k dSl).pl)=runB n ((ls.take (k+1)).map TSl.pl) from(runB_succ hk).symm))⟩))))))))
 ·have hke:k=ls.length:=by omega
  refine En (Lx (LsC (LsL (Lh (Lt (Lq (Le (Dz (Zq1 (v:=.slice i ((runB n ((ls.take k).map TSl.pl)).length) o) ?_)))))))))
  have hq:runB n ((ls.take k).map TSl.pl)=runB n (ls.map TSl.pl):=by rw [hke,List.take_length]
  have a5:St w0 ((Sl i o 5 1 byteC (runB n (ls.map TSl.pl)))::L) w7:=hq▸a
  exact⟨i,o,(by rw [hq]),a5⟩
end
section
variable {w0 w : World} {L : List Asn}
structure SOK (w0:World) (L:List Asn) (s:TSt):Prop where
 ok:StOK s
 ms:∀ k,k<s.pk.ml.length→MsOK (s.pk.ml.getD k dMs)∧∀ w,St w0 L w→RowsAt w (s.pk.ml.getD k dMs).bd.qa (s.pk.ml.getD k dMs).bd.ql.length 2 (fun j=>TPr.cells ((s.pk.ml.getD k dMs).bd.ql.getD j dPr))
 r1:∀ w,St w0 L w→RowsAt w s.bd.qa s.bd.ql.length 2 (fun k=>TPr.cells (s.bd.ql.getD k dPr))
 r2:∀ w,St w0 L w→RowsAt w s.pk.ma s.pk.ml.length 121 (fun k=>TMs.cells (s.pk.ml.getD k dMs))
 r3:∀ w,St w0 L w→RowsAt w s.pa s.pl.length 1 (fun k=>byteC (s.pl.getD k (0:Int)))
structure YOK (w0:World) (L:List Asn) (s:TSt):Prop extends SOK w0 L s where
 ln:(putS s).length<65536
theorem SOK.up {w0:World}{L:List Asn}{s:TSt}(n:Nat) (h:SOK w0 (L.drop n) s):SOK w0 L s :=
 ⟨h.ok,fun k hk=>⟨(h.ms k hk).1,fun w hw=>(h.ms k hk).2 w (hw.drop n)⟩,fun w hw=>h.r1 w (hw.drop n),fun w hw=>h.r2 w (hw.drop n),fun w hw=>h.r3 w (hw.drop n)⟩
theorem rrun_spec {ra:Option Addr}{rc:Nat}(n) (ys) (hy:∀ k,k<ys.length→YOK w0 L (ys.getD k dSt)) (htl:(runB n (ys.map putS)).length≤800000) (hr:Rw w0 L TSt.cells 107 dSt ra ys) (hs:St w0 (L) w):Cs Tryz.prog 7 #[.int .i64 n,.slice ra ys.length rc] w fun rv w'=>∃ ao co,rv=.slice ao ((runB n (ys.map putS)).length) co∧St w0 ((Sl ao co 5 1 byteC (runB n (ys.map putS)))::L) w':=by
 refine Zen Tryz.func7 Tryz.ntmps7 (En (Lq (Ls (Lg [2] (Lw (Zll bytesOK byteF [(IntKind.u8.wrap n:Int)] hs fun e w2 a0=>Lz (Ls (Lq (Lb (Dz ?_))))))))))
 have a1:St w0 ((Sl (some ⟨e,0,none⟩) 1 5 1 byteC (runB n ((ys.take 0).map putS)))::L) w2:=(by exact a0)
 refine Zn [(6,.int .i64 0),(5,zL e 0 1 1),(4,.slice none 0 0),(1,.slice ra ys.length rc)] (Zn [(6,.int .i64 0),(5,zL e 0 ((runB n ((ys.take 0).map putS)).length) 1),(4,.slice none 0 0),(1,.slice ra ys.length rc)] (GoC.loop (T:=Nat×(Option Addr)×(Option Addr)×Nat) (fun gg=>[(1,.slice gg.2.1 ys.length rc),(4,.slice none 0 0),(5,.slice gg.2.2.1 ((runB n ((ys.take gg.1).map putS)).length) gg.2.2.2),(6,.int .i64 (gg.1:Nat))]) (fun gg w=>(gg.1≤ys.length∧∀ w,St w0 L w→RowsAt w gg.2.1 ys.length 107 (fun q=>TSt.cells (ys.getD q dSt)))∧St w0 ((Sl gg.2.2.1 gg.2.2.2 5 1 byteC (runB n ((ys.take gg.1).map putS)))::L) w) (fun gg=>ys.length-gg.1) (0,ra,(some ⟨e,0,none⟩),1) [1,4,5,6] (by kernel_rfl) ⟨⟨Nat.zero_le _,hr⟩,a1⟩ ?_))
 rintro⟨k,aq,i,o⟩ w7 ⟨hp,a⟩
 dsimp only at hp a
 have hw:=hp.2
 refine En (Ls (Lq (Dz (Zi ((k:Int)<(ys.length:Nat)) (fun a2=>?_) (fun a2=>?_)))))
 ·have hk:k<ys.length:=by omega
  have hln:=runB_len n (ys.map putS)
  rw [List.length_map] at hln
  obtain⟨b,d,rfl⟩:=RowsAt.isSome (hw _ (a.drop 1)) (by omega)
  refine Zk (Zt (Zs (Zb (Zgj [5,6] (Hx 3 (k:Int) (ys.length:Int) b d 107 (Hg 4 (.agg (TSt.cells (ys.getD k dSt))) [.prop (Array.size (TSt.cells (ys.getD k dSt))=107),.cells ⟨b,d+(k*107),none⟩ (TSt.cells (ys.getD k dSt))] (okp (by kernel_rfl) (oka (RowsAt.all0 (hw _ (a.drop 1)) (by first|omega|(simp only [List.length_set];omega)|(simp only [List.length_set,lA,lC,lN];omega)) (Nat.le_of_ble_eq_true (by kernel_rfl)) (by kernel_rfl)) ok0)) Hz)) (Zc (rputS_spec (ys.getD k dSt) (hy k hk).ok (fun j hj=>⟨((hy k hk).ms j hj).1,fun w h=>((hy k hk).ms j hj).2 w (h.drop 1)⟩) (fun w h=>(hy k hk).r1 w (h.drop 1)) (fun w h=>(hy k hk).r2 w (h.drop 1)) (fun w h=>(hy k hk).r3 w (h.drop 1)) a) ?_)))))
  rintro a9 b0 ⟨b2,b3,rfl,a3⟩
  refine Lo (Dz ?_)
  have z:=(a3.pl 1)
  refine Zc (rlong_spec (runB n ((ys.take k).map putS)) (putS (ys.getD k dSt)) (Nat.le_trans (runB_le (f:=putS) (l:=ys) (n:=n) (k:=k)) htl) (hy k hk).ln (z.slNone 1 rfl) (fun w h=>h.rows 0 rfl (byteF).size _) z) ?_
  rintro b4 b5 ⟨u,x,rfl,a4⟩
  refine Lo (Lud (Lm (Lt (Dz (Zaj (Hwi 1 ((k:Nat)+1) Hz) ?_)))))
  have a5:=((a4.pl 0).pl 1)
  exact GoQ.pick [6,5,1,4] (S':=[(6,.int .i64 ((k:Nat)+1)),(5,.slice u (((runB n ((ys.take k).map putS))++loS (putS (ys.getD k dSt))).length) x),(1,zL b d ys.length rc),(4,.slice none 0 0)]) (by kernel_rfl) (GoQ.slots (S':=[(6,.int .i64 ((k:Nat)+1)),(5,.slice u ((runB n ((ys.take (k+1)).map putS)).length) x),(1,zL b d ys.length rc),(4,.slice none 0 0)]) (by rw [(show(runB n ((ys.take k).map putS))++loS (putS (ys.getD k dSt))=runB n ((ys.take (k+1)).map putS) from(runB_succ hk).symm)]) (GoQ.back (k+1,some ⟨b,d,none⟩,u,x) [1,4,5,6] (by kernel_rfl) (by show ys.length-(k+1)<ys.length-k;omega) ⟨⟨by omega,hw⟩,(Zsr (a5.dr 1) (show(runB n ((ys.take k).map putS))++loS (putS (ys.getD k dSt))=runB n ((ys.take (k+1)).map putS) from(runB_succ hk).symm))⟩))
 ·have hke:k=ys.length:=by omega
  refine En (Lx (LsC (LsL (Lh (Lt (Lq (Le (Dz (Zq1 (v:=.slice i ((runB n ((ys.take k).map putS)).length) o) ?_)))))))))
  have hq:runB n ((ys.take k).map putS)=runB n (ys.map putS):=by rw [hke,List.take_length]
  have a8:St w0 ((Sl i o 5 1 byteC (runB n (ys.map putS)))::L) w7:=hq▸a
  exact⟨i,o,(by rw [hq]),a8⟩
end
section
variable {w0 w : World} {L : List Asn} {ad : Option Addr} {cb : Nat}
theorem Sl_none {α:Type}{w:World}{ad:Option Addr}{c size:Nat}{e:TypeId}{f:α→Array Value}{l:List α}(hs:(Sl ad c e size f l).holds w):ad=none→c=0:=by
 rintro rfl
 have h:w.ownsRow 0 e size (.slice none l.length c) l.length (l.flatMap fun x=>(f x).toList):=hs
 rcases h.2 with⟨a,b⟩|⟨g,cap,cur,hv,_⟩
 ·simp only [Value.slice.injEq] at a
  exact a.2.2
 ·simp at hv
theorem QBr_none {w:World}:∀ {l:List TSl},(QBr l).holds w→∀ m∈l,m.pa=none→m.pc=0
 | [],_,m,hm=>by cases hm
 | a::l,h,m,hm=>by
  rcases List.mem_cons.1 hm with rfl|hm
  ·exact Sl_none h.1
  ·exact QBr_none h.2.1 m hm
theorem tk_sum (n:Nat) (s:CS):(tk n s).1.length+(tk n s).2.1.length≤s.1.length∧((tk n s).2.2=false→s.2=false∧n+(tk n s).2.1.length=s.1.length):=by
 unfold tk
 split
 ·exact⟨by simp,fun h=>by cases h⟩
 ·rename_i h
  simp only [not_or,Bool.not_eq_true,Nat.not_lt] at h
  simp only [List.length_take,List.length_drop]
  exact⟨by omega,fun _=>⟨h.1,by omega⟩⟩
theorem ptP_all:∀ (k:Nat) (s:CS) (l:List (List Int)),(∀ x∈l,x.length<65536)→∀ x∈(ptP k s l).1,x.length<65536
 | 0,s,l,h=>h
 | k+1,s,l,h=>by
  unfold ptP
  split
  ·exact h
  ·split
   ·exact h
   ·split
    ·refine ptP_all k _ _ fun x hx=>?_
     rcases List.mem_append.1 hx with hx|hx
     ·exact h x hx
     ·rw [List.mem_singleton.1 hx]
      exact Nat.lt_of_le_of_lt (tk_len _ _) (halfP_rng (s:=s) rfl)
    ·exact h
theorem ptP_len:∀ (k:Nat) (s:CS) (l:List (List Int)),((ptP k s l).1.flatMap loS).length+(ptP k s l).2.2.1.length≤(l.flatMap loS).length+s.1.length
 | 0,s,l=>Nat.le_refl _
 | k+1,s,l=>by
  have h1:=tk_sum (halfP s).1 (halfP s).2
  have h2:(halfP s).2.1.length≤s.1.length∧((halfP s).2.2=false→2+(halfP s).2.1.length=s.1.length):=⟨by have:=(tk_sum 2 s).1;exact Nat.le_trans (Nat.le_add_left _ _) this,fun h=>((tk_sum 2 s).2 h).2⟩
  unfold ptP
  split
  ·exact Nat.le_refl _
  ·split
   ·simp only;omega
   ·rename_i hb
    have h3:=h1.2 (by simpa using hb)
    have h4:=h2.2 h3.1
    split
    ·refine Nat.le_trans (ptP_len k _ _) ?_
     rw [List.flatMap_append,lA,List.flatMap_cons,List.flatMap_nil,List.append_nil,loS_length]
     omega
    ·simp only;omega
theorem runP_some {b:List Int}{n:Int}{l:List (List Int)}(h:runP b=some (n,l)):(∀ x∈l,x.length<65536)∧(runB n l).length≤b.length:=by
 unfold runP at h
 split at h
 ·cases h
 ·split at h
  ·cases h
  ·rename_i f a
   simp only [Option.some.injEq,Prod.mk.injEq] at h
   obtain⟨rfl,rfl⟩:=h
   refine⟨ptP_all _ _ _ (fun x hx=>by cases hx),?_⟩
   have d:=ptP_len ((byteP (b,false)).2.1.length+1) (byteP (b,false)).2 []
   have e:(byteP (b,false)).2.2=false:=by
    cases hb:(byteP (b,false)).2.2 with
    | false=>rfl
    | true=>exact absurd (.inr (by rw [ptP_end (.inr hb)];exact hb)) a
   have i:1+(byteP (b,false)).2.1.length=b.length:=((tk_sum 1 (b,false)).2 e).2
   show((ptP _ _ _).1.flatMap loS).length+1≤_
   simp only [List.flatMap_nil,lN] at d
   omega
theorem getD_take {α:Type}{l:List α}{n k:Nat}{d:α}(h:k<(l.take n).length):(l.take n).getD k d=l.getD k d:=by
 rw [List.length_take] at h
 rw [List.getD_eq_getElem?_getD,List.getD_eq_getElem?_getD,List.getElem?_take_of_lt (by omega)]
theorem getD_mem {α:Type}{l:List α}{k:Nat}{d:α}(h:k<l.length):l.getD k d∈l:=by
 rw [List.getD_eq_getElem?_getD,List.getElem?_eq_getElem h]
 exact List.getElem_mem h
theorem parts_ok {l:List TSl}{n:Nat}(hs:St w0 L w) (hq:∀ w,St w0 L w→(QB l).holds w) (hl:∀ x∈l.map TSl.pl,x.length<65536):∀ k,k<(l.take n).length→((l.take n).getD k dSl).pl.length<65536∧(((l.take n).getD k dSl).pa=none→((l.take n).getD k dSl).pc=0)∧∀ w,St w0 L w→RowsAt w ((l.take n).getD k dSl).pa ((l.take n).getD k dSl).pl.length 1 (fun j=>byteC (((l.take n).getD k dSl).pl.getD j (0:Int))):=fun k hk=>by
 have h1:k<l.length:=by rw [List.length_take] at hk;omega
 rw [getD_take hk]
 exact⟨hl _ (List.mem_map_of_mem (getD_mem h1)),QBr_none (hq w hs) _ (List.mem_reverse.2 (getD_mem h1)),fun w h=>QB_rows (hq w h) h1⟩
theorem run_take {n:Int}{l:List TSl}{k m:Nat}(h:(runB n (l.map TSl.pl)).length≤m):(runB n ((l.take k).map TSl.pl)).length≤m:=Nat.le_trans runB_le h
theorem upto_spec (b) (kz) (hsome:Som ad cb) (hbl:b.length≤800000) (hbb:Byt b) (hr:Rw w0 L byteC 1 0 ad b) (hs:St w0 (L) w):Cs Tryz.prog 10 #[.slice ad b.length cb,.int .i64 kz] w fun rv w'=>(rv=.tuple #[.slice none 0 0,.int .i64 5]∧runP b=none∧St w0 (L) w')∨(∃ (nn2:Int) (l2:List (List Int)),rv=.tuple #[.slice none 0 0,.int .i64 1]∧runP b=some (nn2,l2)∧(kz<0∨(l2.length:Int)<kz)∧St w0 (L) w')∨(∃ (nn2:Int) (l2:List (List Int)) (ao2:Option Addr) (co2:Nat),rv=.tuple #[.slice ao2 ((runB nn2 (l2.take kz.toNat)).length) co2,.int .i64 0]∧runP b=some (nn2,l2)∧0≤kz∧kz≤l2.length∧St w0 ((Sl ao2 co2 5 1 byteC (runB nn2 (l2.take kz.toNat)))::L) w'):=by
 refine Zen Tryz.func10 Tryz.ntmps10 (En (Lq (Ls (Lg [1] (Lw (Zc (read_spec b hsome (by omega) hbb (fun w h=>hr _ (h.drop 0)) hs) ?_))))))
 rintro a9 b0 (⟨rfl,a1,a2⟩|⟨e,d,o,i,b1,b2,b3,rfl,q,u⟩)
 ·exact Lz (Ls (Lb (Lq (LT (Lq (Le (Ll (Ly (Dz (Zq2 (v:=.slice none 0 0) (v':=.int .i64 5) (.inl ⟨rfl,a1,a2⟩)))))))))))
 ·refine Lz (Ls (Lb (Lq (LF (Ls (Lq (Dz (Zi ((kz:Int)<0) (fun x=>?_) (fun x=>?_)))))))))
  ·exact Zk (Zt (Zqc (t:=decide ((kz:Int)<0)) (fun _=>En (Lq (Le (Ll (Ly (Dz (Zq2 (v:=.slice none 0 0) (v':=.int .i64 1) (.inr (.inl ⟨e,(d.map TSl.pl),rfl,q,(.inl (by omega)),(u.dr 2)⟩))))))))) (fun hc=>absurd ((decide_eq_true x).symm.trans hc) (by decide))))
  ·refine Zn [(21,.bool (decide ((kz:Int)<0))),(7,.slice o d.length i),(6,.int .i64 e),(5,.int .i64 0),(4,.slice none 0 0),(1,.int .i64 kz)] ?_
   obtain⟨kn,rfl⟩:∃ m:Nat,kz=m:=⟨kz.toNat,by omega⟩
   refine Za (Zt (Zi ((kn:Int)>(d.length:Nat)) (fun a4=>?_) (fun a4=>?_)))
   ·exact En (Lq (Le (Ll (Ly (Dz (Zq2 (v:=.slice none 0 0) (v':=.int .i64 1) (.inr (.inl ⟨e,(d.map TSl.pl),rfl,q,(.inr (by rw [List.length_map];omega)),(u.dr 2)⟩))))))))
   ·refine En (Lk (Lm (Lt (Ls (Lg [4] (Dz ?_))))))
    have b4:=Sl.cap (u.at_ 0 rfl)
    refine Zj (Hg 3 (.as_ (.slice o (((d).take kn).length) i) (.sub 0 kn)) [.prop ((kn:Int)=(kn:Int)),.prop (((none:Option Operand)=none→(0:Nat)=0)∧(some (Operand.tmp 30)=none→(kn:Nat)=d.length)∧(0:Nat)≤kn∧(kn:Nat)≤i),.prop (Value.slice (if i=0 then o else (o:Option Addr).map (fun a=>a.add (0*1))) (kn-0) (i-0)=Value.slice o (((d).take kn).length) i)] (okp (by omega) (okp ⟨(by first|(intro _;rfl)|(intro hc;cases hc)),(by first|(intro _;rfl)|(intro hc;cases hc)),(by omega),(by omega)⟩ (okp (subSl0 (by simp only [List.length_take,List.length_drop]<;>omega)) ok0))) Hz) (Zqa (f:=29) (args:=#[.int .i64 e,.slice o (((d).take kn).length) i]) Tryz.call29 (run_spec e ((d).take kn) (parts_ok u (fun w h=>h.at_ 1 rfl) (runP_some q).1) (run_take (Nat.le_trans (runP_some q).2 hbl)) (fun w h=>RowsAt.takeL (h.rows 0 rfl (dSlF).size _) _ (by omega)) u) ?_)
    rintro b5 b6 ⟨z,a0,rfl,a6⟩
    refine Lz (Le (Dz (Zq2 (v:=.slice z ((runB e (((d).take kn).map TSl.pl)).length) a0) (v':=.int .i64 0) ?_)))
    have a7:=(((a6.pl 0).pl 2).pl 2)
    exact .inr (.inr (⟨e,(d.map TSl.pl),z,a0,(by rw [← List.map_take];rfl),q,(by omega),(by rw [List.length_map];omega),(by rw [← List.map_take];exact(a7.dr 2))⟩))
end
section
variable {w0 w : World} {L : List Asn} {ad : Option Addr} {cb : Nat}
def QXr:List TSt→Asn
 | []=>St.nothing
 | x::l=>Asn.and (ands [Sl x.pa x.pc 5 1 byteC x.pl,Sl x.bd.qa x.bd.qc 143 2 TPr.cells x.bd.ql,Sl x.pk.ma x.pk.mc 63 121 TMs.cells x.pk.ml,QS x.pk.ml]) (QXr l)
def QX (l:List TSt):Asn:=QXr l.reverse
theorem QX_app (l:List TSt) (x:TSt):QX (l++[x])=Asn.and (ands [Sl x.pa x.pc 5 1 byteC x.pl,Sl x.bd.qa x.bd.qc 143 2 TPr.cells x.bd.ql,Sl x.pk.ma x.pk.mc 63 121 TMs.cells x.pk.ml,QS x.pk.ml]) (QX l):=by
 unfold QX
 rw [List.reverse_append]
 rfl
theorem QXr_rows {w:World}:∀ {l:List TSt},(QXr l).holds w→∀ x∈l,(ands [Sl x.pa x.pc 5 1 byteC x.pl,Sl x.bd.qa x.bd.qc 143 2 TPr.cells x.bd.ql,Sl x.pk.ma x.pk.mc 63 121 TMs.cells x.pk.ml,QS x.pk.ml]).holds w
 | [],_,m,hm=>by cases hm
 | a::l,h,m,hm=>by
  rcases List.mem_cons.1 hm with rfl|hm
  ·exact h.1
  ·exact QXr_rows h.2.1 m hm
theorem steps_ok {w0:World}{L:List Asn}{l:List TSt}{n:Nat}(hq:∀ w,St w0 L w→(QX l).holds w) (hf:∀ y∈l,StOK y∧∀ m∈y.pk.ml,MsOK m) (hl:∀ x∈l.map putS,x.length<65536):∀ k,k<(l.take n).length→YOK w0 L ((l.take n).getD k dSt):=fun k hk=>by
 have h1:k<l.length:=by rw [List.length_take] at hk;omega
 rw [getD_take hk]
 have hm:=getD_mem (d:=dSt) h1
 have hr:=fun w h=>QXr_rows (hq w h) _ (List.mem_reverse.2 hm)
 exact⟨⟨(hf _ hm).1,fun j hj=>⟨(hf _ hm).2 _ (getD_mem hj),fun w h=>QS_rows (hr w h).2.1.2.1.2.1.1 hj⟩,fun w h=>Sl.rows dPrF.size (hr w h).2.1.1 _,fun w h=>Sl.rows dMsF.size (hr w h).2.1.2.1.1 _,fun w h=>Sl.rows byteF.size (hr w h).1 _⟩,hl _ (List.mem_map_of_mem hm)⟩
theorem got_put {b:List Int}{s:TSt}(h:getT b=(conS s,0)):putS s=b:=by
 unfold getT finT at h
 have a:((5:Int)=0)→False:=by decide
 split at h
 ·exact(a (congrArg Prod.snd h)).elim
 ·split at h
  ·exact(a (congrArg Prod.snd h)).elim
  ·split at h
   ·exact(a (congrArg Prod.snd h)).elim
   ·split at h
    ·exact(a (congrArg Prod.snd h)).elim
    ·split at h
     ·rename_i hp
      rw [← hp,congrArg Prod.fst h]
      exact(putS_con s).symm
     ·exact(a (congrArg Prod.snd h)).elim
theorem okS_map {y:List TSt}{x:List Int}{s:TSt}{e:Int}(h:getT x=(s,e)):okS (y.map putS) x=!((e != 0) || decide ((y.length:Int) ≥ 65536)):=by
 unfold okS
 rw [h,List.length_map]
 by_cases a:e=0<;>by_cases b:y.length<65536<;>simp [a,b]<;>omega
theorem pt_fail {k n:Nat}{s s1:CS}{y:List TSt}{x r:List Int}{sp:Bool}{t:TSt}{e:Int}(h:¬ (s.1.length=0∨s.2=true)) (hh:halfP s=(n,s1)) (ht:tk n s1=(x,(r,sp))) (hg:getT x=(t,e)) (hc:((sp || (e != 0)) || decide ((y.length:Int) ≥ 65536))=true):(ptP (k+1) s (y.map putS)).2.1=true∨(ptP (k+1) s (y.map putS)).2.2.2=true:=by
 cases sp with
 | true=>exact .inr (by rw [ptP_bad h hh ht rfl])
 | false=>exact .inl (by rw [ptP_stop h hh ht rfl (by rw [okS_map hg];rw [Bool.false_or] at hc;rw [hc];rfl)])
theorem rsteps_spec (Q) (b) (hQ:∀ w,St w0 L w→Q.holds w) (hq:CutOK Q ad b cb) (hs:St w0 (L) w):Cs Tryz.prog 9 #[.slice ad b.length cb] w fun rv w'=>(rv=.tuple #[.int .i64 0,.slice none 0 0,.int .i64 5]∧runP b=none∧St w0 (L) w')∨(∃ nn2 ys2 sa2 sc2,rv=.tuple #[.int .i64 nn2,.slice sa2 ys2.length sc2,.int .i64 0]∧runP b=some (nn2,ys2.map putS)∧(∀ y∈ys2,StOK y∧∀ m∈y.pk.ml,MsOK m)∧St w0 ((Sl sa2 sc2 47 107 TSt.cells ys2)::(QX ys2)::L) w'):=by
 refine Zen Tryz.func9 Tryz.ntmps9 (En (Lq (Ls (Lg [2] (Lw (Zbg #[.slice ad b.length cb,.bool false] hs fun q w2 e1=>Lz (Ls (Lg [1] (Lw (Zqa (f:=24) (args:=#[zP q 0]) Tryz.call24 (rByteN_spec Q b false (fun w h=>hQ w (h.drop 0)) hq e1) ?_))))))))))
 rintro i7 i8 ⟨d,a5,x,d4,d5,rfl,b5,e2,a6⟩
 refine Zojd (Hwi 2 (d:Nat) Hz) (Zt (Zs (Zs (GoC.join (T:=Unit) (E:=fun _=>[(33,.bool (((x || (decide ((d:Int)<3))) || (decide ((d:Int)>11))) || ((((d:Nat) % 2):Int) == 0))),(6,.int .i64 (d:Nat)),(5,zP q 0),(4,.int .i64 0),(3,.slice none 0 0),(2,.int .i64 0)]) (F:=fun _ w=>St w0 ((Cel q #[.slice d4 a5.length d5,.bool x] 85)::L) w) ?_ ?_))))
 ·refine Zg [] (Zpj 0 5 (Hl 3 0 1 a6 Hz) (Zsq 21 x (fun a7=>?_) (fun a7=>?_)))
  ·exact En (Lud (Dz (Zmb [33,6,5,4,3,2] () true (by first|rfl|simp [Hb,a7]) a6)))
  ·refine Zr 5 4 [] (Zsq 25 (decide ((d:Int)<3)) (fun a3=>?_) (fun a3=>?_))
   ·exact En (Lud (Dz (Zmb [33,6,5,4,3,2] () true (by first|rfl|simp [Hb,a7,a3]) a6)))
   ·refine Zr 9 4 [] (Zsq 29 (decide ((d:Int)>11)) (fun a8=>?_) (fun a8=>?_))
    ·exact En (Lud (Dz (Zmb [33,6,5,4,3,2] () true (by first|rfl|simp [Hb,a7,a3,a8]) a6)))
    ·exact Zjd (Hg 14 (.div ((d:Nat) % 2)) [.prop (IntKind.i64=IntKind.i64∧(2:Int)≠0∧Int.tmod (d:Nat) 2=(d:Nat) % 2)] (okp ⟨rfl,by decide,Int.tmod_eq_emod_of_nonneg (by first|omega|exact Int.natCast_nonneg _)⟩ ok0) Hz) (Zmb [33,6,5,4,3,2] () ((((d:Nat) % 2):Int) == 0) (by first|rfl|simp [Hb,a7,a3,a8]) a6)
 intro _ i9 c3
 refine Zt (Zqc (t:=((x || (decide ((d:Int)<3))) || (decide ((d:Int)>11))) || ((((d:Nat) % 2):Int) == 0)) (fun a1=>?_) (fun a1=>?_))
 ·have hnv:x=true∨((d:Int)<3∨(d:Int)>11∨(d:Int) % 2=0):=by simp only [Bool.or_eq_true,Bool.or_eq_false_iff,decide_eq_true_eq,decide_eq_false_iff_not,beq_iff_eq,beq_eq_false_iff_ne] at a1;rcases a1 with((o|o)|o)|o<;>first|exact .inl o|(right;omega)
  exact En (Lq (Le (Ly (Dz (GoQ.done (.inl rfl) (v:=.tuple #[.int .i64 0,.slice none 0 0,.int .i64 5]) (fun a hf=>results3 rfl (by kernel_rfl) (by kernel_rfl) (by kernel_rfl) a hf) (.inl ⟨rfl,(hnv.elim (fun o=>runP_bad b5.1 (.inr (by rw [ptP_end (.inr o)];exact o))) (runP_no b5.1)),(c3.dr 1)⟩))))))
 ·have d6:=(Bool.or_eq_false_iff.1 a1).1
  have h19aa:=(Bool.or_eq_false_iff.1 d6).1
  have h19aaa:=(Bool.or_eq_false_iff.1 h19aa).1
  have h19aab:=(Bool.or_eq_false_iff.1 h19aa).2
  have h19aab':=of_decide_eq_false h19aab
  have h19ab:=(Bool.or_eq_false_iff.1 d6).2
  have h19ab':=of_decide_eq_false h19ab
  have e6:=(Bool.or_eq_false_iff.1 a1).2
  have j0:=ieqF e6
  have hnv:x=false∧¬ ((d:Int)<3∨(d:Int)>11∨(d:Int) % 2=0):=by simp only [Bool.or_eq_true,Bool.or_eq_false_iff,decide_eq_true_eq,decide_eq_false_iff_not,beq_iff_eq,beq_eq_false_iff_ne] at a1;exact⟨a1.1.1.1,by omega⟩
  rw [hnv.1] at c3
  refine En (Lk (Lt (Lq (Ls (Lb (Dz ?_))))))
  have e7:=St.slNil c3 47 107 TSt.cells
  have e8:=St.addNothing e7
  refine Zn [(7,.slice none 0 0),(6,.int .i64 (d:Nat)),(5,zP q 0),(4,.int .i64 0),(3,.slice none 0 0),(2,.int .i64 0)] (Zn [(7,.slice none (([]:List TSt).length) 0),(6,.int .i64 (d:Nat)),(5,zP q 0),(4,.int .i64 0),(3,.slice none 0 0),(2,.int .i64 0)] (GoC.loop (T:=Nat×(List Int)×(Option Addr)×Nat×(List TSt)×(Option Addr)×Nat) (fun gg=>[(5,zP q 0),(6,.int .i64 (d:Nat)),(7,.slice gg.2.2.2.2.2.1 gg.2.2.2.2.1.length gg.2.2.2.2.2.2)]) (fun gg w=>(gg.2.1.length<gg.1∧ptP (a5.length+1) (a5,false) []=ptP gg.1 (gg.2.1,false) (gg.2.2.2.2.1.map putS)∧CutOK Q gg.2.2.1 gg.2.1 gg.2.2.2.1∧∀ y∈gg.2.2.2.2.1,StOK y∧∀ m∈y.pk.ml,MsOK m)∧St w0 ((Sl gg.2.2.2.2.2.1 gg.2.2.2.2.2.2 47 107 TSt.cells gg.2.2.2.2.1)::(QX gg.2.2.2.2.1)::(Cel q #[.slice gg.2.2.1 gg.2.1.length gg.2.2.2.1,.bool false] 85)::L) w) (fun gg=>gg.1) ((a5.length+1),a5,d4,d5,([]:List TSt),none,0) [5,6,7] (by kernel_rfl) ⟨⟨Nat.lt_succ_self _,rfl,e2,fun y hy=>(by cases hy)⟩,(((e8.pl 2).pl 1).pl 2)⟩ ?_))
  rintro⟨kk,a9,j1,j2,ys,b0,b2⟩ j3 ⟨hp,b6⟩
  dsimp only at hp b6
  obtain⟨c4,rfl⟩:∃ m,kk=m+1:=⟨kk-1,by omega⟩
  refine Zs (Zs (Zaj (Hl 3 2 0 b6 Hz) (Zt (Zi ((a9.length:Int)>0) (fun f0=>?_) (fun f0=>?_)))))
  ·have hno:¬ ((a9,false).1.length=0∨(a9,false).2=true):=fun o=>o.elim (fun h8=>by simp only at h8;omega) (fun h8=>by cases h8)
   refine En (Lk (Lt (Lb (Ls (Lg [2,4] (Lw (Zc (rHalf_spec Q a9 false (fun w h=>hQ w (h.drop 2)) hp.2.2.1 (b6.pl 2)) ?_)))))))
   rintro j4 j5 ⟨b7,c5,c6,j6,j7,rfl,c7,j8,c8,f2⟩
   refine Zoj (Hwi 3 (b7:Nat) Hz) (Zc (rRaw_spec Q c5 c6 b7 (fun w h=>hQ w (h.drop 2)) c8 f2) ?_)
   rintro j9 k0 ⟨c9,d0,a4,b8,a2,b9,c0,rfl,b3,f3,d7⟩
   have f4:∀ z∈a4,0≤z∧z<256:=by have o:=tk_byt (n:=b7) (s:=(c5,c6)) c8.byt;rw [b3] at o;exact o
   have f5:a4.length≤1000000:=by have o:=tk_len2 (n:=b7) (s:=(c5,c6)) (m:=1000000) c8.len;rw [b3] at o;exact o
   refine Lz (Ls (Lg [1,5,6] (Lw (Zc (rgetT_spec (Sl c9 d0 5 1 byteC a4) a4 (fun w h=>h.at_ 0 rfl) (CutOK.new d7 (j:=0) rfl f4 f5) d7) ?_))))
   rintro k1 k2 ⟨i,u,rfl,d1,f7,f8,f9⟩
   refine Lo (Lw (Zag (TSt.cells dSt) f9 fun d2 k3 g0=>Lo (Dz (Zu 0 0 (TSt.cells i) g0 fun k4 c1=>Lz (Ls (Ls (Dz (GoC.join (T:=Unit) (E:=fun _=>[(62,.bool ((a2 || ((u:Int) != 0)) || (decide ((ys.length:Int) ≥ 65536)))),(9,zP d2 0),(5,zP q 0),(6,.int .i64 (d:Nat)),(7,.slice b0 ys.length b2)]) (F:=fun _ w=>St w0 ((Cel d2 (TSt.cells i) 47)::(Sl i.pa i.pc 5 1 byteC i.pl)::(Sl i.bd.qa i.bd.qc 143 2 TPr.cells i.bd.ql)::(Sl i.pk.ma i.pk.mc 63 121 TMs.cells i.pk.ml)::(QS i.pk.ml)::(Sl c9 d0 5 1 byteC a4)::(Cel q #[.slice b9 b8.length c0,.bool a2] 85)::(Sl b0 b2 47 107 TSt.cells ys)::(QX ys)::L) w) ?_ ?_))))))))
   ·refine Zg [] (Zpj 0 5 (Hl 3 6 1 c1 Hz) (Zsq 54 a2 (fun c2=>?_) (fun c2=>?_)))
    ·exact En (Lud (Dz (Zmb [62,9,5,6,7] () true (by first|rfl|simp [Hb,c2]) c1)))
    ·refine Zr 5 4 [] (Zsq 58 ((u:Int) != 0) (fun b4=>?_) (fun b4=>?_))
     ·exact En (Lud (Dz (Zmb [62,9,5,6,7] () true (by first|rfl|simp [Hb,c2,b4]) c1)))
     ·exact En (Lud (Dz (Zmb [62,9,5,6,7] () (decide ((ys.length:Int) ≥ 65536)) (by first|rfl|simp [Hb,c2,b4]) c1)))
   intro _ k5 d3
   refine Zt (Zqc (t:=(a2 || ((u:Int) != 0)) || (decide ((ys.length:Int) ≥ 65536))) (fun a0=>?_) (fun a0=>?_))
   ·exact En (Lq (Le (Ly (Ll (LsR (Ll (Ly (Dz (GoQ.done (.inl rfl) (v:=.tuple #[.int .i64 0,.slice none 0 0,.int .i64 5]) (fun a hf=>results3 rfl (by kernel_rfl) (by kernel_rfl) (by kernel_rfl) a hf) (.inl ⟨rfl,(runP_bad (hnv.1▸b5.1) (by rw [hp.2.1];exact pt_fail hno c7 b3 d1 a0)),(d3.dr 9)⟩))))))))))
   ·have d8:=(Bool.or_eq_false_iff.1 a0).1
    have h72aa:=(Bool.or_eq_false_iff.1 d8).1
    have h72ab:=(Bool.or_eq_false_iff.1 d8).2
    have h72ab':=ineF h72ab
    have g8:=(Bool.or_eq_false_iff.1 a0).2
    have k6:=of_decide_eq_false g8
    obtain⟨hbd,g9,hro⟩:a2=false∧u=0∧((u != 0) || decide ((ys.length:Int) ≥ 65536))=false:=by
     rw [Bool.or_eq_false_iff,Bool.or_eq_false_iff] at a0
     exact⟨a0.1.1,by simpa using a0.1.2,by rw [a0.1.2,a0.2];rfl⟩
    subst hbd
    refine Zk (Zt (Zgj [2,3] (Hla 1 0 0 107 (TSt.cells i) d3 Hz) (GoR.sliceLit rfl (by kernel_rfl) (t:=27) (e:=47) (n:=1) (ps:=[(0,.agg (TSt.cells i))]) (by kernel_rfl) (by kernel_rfl) (ti:=Tryz.t47) (z:=.agg (TSt.cells dSt)) (by kernel_rfl) (by kernel_rfl) (by decide) (by decide) (cs:=TSt.cells i) (by kernel_rfl) d3 fun h0 h1 h2 h3=>?_)))
    have h4:St w0 ((Sl (some ⟨h0,0,none⟩) 1 47 107 TSt.cells ([(i:TSt)]))::(Cel d2 (TSt.cells i) 47)::(Sl i.pa i.pc 5 1 byteC i.pl)::(Sl i.bd.qa i.bd.qc 143 2 TPr.cells i.bd.ql)::(Sl i.pk.ma i.pk.mc 63 121 TMs.cells i.pk.ml)::(QS i.pk.ml)::(Sl c9 d0 5 1 byteC a4)::(Cel q #[.slice b9 b8.length c0,.bool false] 85)::(Sl b0 b2 47 107 TSt.cells ys)::(QX ys)::L) h1:=St.slOf (l:=[(i:TSt)]) (f:=TSt.cells) h2 h3 (dStF).size (by simp only [lC,lN,maxLen];omega) (by kernel_rfl)
    refine Lo (Dz (Zap stsOK dStF dSt (h4.pl 8) (by simp only [lA,lC,lN,List.length_map] at *;omega) fun d9 e0 h6 h7=>Lo (Lud (Lm (Dz ?_)))))
    have i0:=((((((((((h7.pl 8).pl 1).pl 9).pl 8).pl 8).pl 8).pl 8).pl 9).pl 9).pl 9)
    have i1:=i0.dr 3
    have i2:St w0 ((QX (ys++[i]))::(Sl d9 e0 47 107 TSt.cells (ys++([(i:TSt)])))::(Cel q #[.slice b9 b8.length c0,.bool false] 85)::L) h6:=by rw [QX_app];exact St.join (St.joins (l:=[_,_,_,_]) i1)
    exact GoQ.back (c4,b8,b9,c0,(ys++[i]),d9,e0) [5,6,7] (by kernel_rfl) (by show c4<(c4+1);omega) ⟨⟨by have:=pt_less hno c7 b3 rfl;simp only at this ⊢;omega,by rw [hp.2.1,ptP_step hno c7 b3 rfl (by rw [okS_map d1,hro];rfl),List.map_append,List.map_cons,List.map_nil,got_put (d1.trans (by rw [g9]))],f3,fun y hy=>(List.mem_append.1 hy).elim (hp.2.2.2 y) (fun o=>by rw [List.mem_singleton.1 o];exact⟨f7,f8⟩)⟩,(((i2.pl 2).pl 1).pl 2)⟩
  ·have i4:a9.length=0:=by omega
   refine En (Lx (LsC (LsL (Lh (Lt (Lq (Le (Dz (GoQ.done (.inl rfl) (v:=.tuple #[.int .i64 (d:Nat),.slice b0 ys.length b2,.int .i64 0]) (fun a hf=>results3 rfl (by kernel_rfl) (by kernel_rfl) (by kernel_rfl) a hf) ?_)))))))))
   have i5:=(((b6.pl 1).pl 1).pl 2)
   exact .inr (⟨(d:Nat),ys,b0,b2,rfl,(runP_is (hnv.1▸b5.1) hnv.2 (hp.2.1.trans (ptP_end (.inl i4) _)) rfl),hp.2.2.2,(i5.dr 1)⟩)
end
section
variable {w0 w : World} {L : List Asn} {ad : Option Addr} {cb : Nat}
structure TS6 where
 s:TSt
 nr:Bool
def TS6.cells (x:TS6):Array Value:=#[.int .u8 x.s.dw,.int .i64 x.s.cl,.int .i64 x.s.wh,.int .i64 x.s.j,.int .i64 x.s.k,.int .i64 x.s.n,.int .u8 x.s.op.kd,.string x.s.op.ky,.string x.s.op.va,.string x.s.op.ol,.string x.s.op.tx,.int .u64 x.s.op.am,.int .u8 x.s.bd.kd,.int .u64 x.s.bd.vw,.int .u64 x.s.bd.k,.int .i64 x.s.bd.rq.cl,.int .u64 x.s.bd.rq.tm,.int .u8 x.s.bd.rq.op.kd,.string x.s.bd.rq.op.ky,.string x.s.bd.rq.op.va,.string x.s.bd.rq.op.ol,.string x.s.bd.rq.op.tx,.int .u64 x.s.bd.rq.op.am,.int .u8 (x.s.bd.rq.tg[0]),.int .u8 (x.s.bd.rq.tg[1]),.int .u8 (x.s.bd.rq.tg[2]),.int .u8 (x.s.bd.rq.tg[3]),.int .u8 (x.s.bd.rq.tg[4]),.int .u8 (x.s.bd.rq.tg[5]),.int .u8 (x.s.bd.rq.tg[6]),.int .u8 (x.s.bd.rq.tg[7]),.int .u8 (x.s.bd.rq.tg[8]),.int .u8 (x.s.bd.rq.tg[9]),.int .u8 (x.s.bd.rq.tg[10]),.int .u8 (x.s.bd.rq.tg[11]),.int .u8 (x.s.bd.rq.tg[12]),.int .u8 (x.s.bd.rq.tg[13]),.int .u8 (x.s.bd.rq.tg[14]),.int .u8 (x.s.bd.rq.tg[15]),.int .u8 (x.s.bd.rq.tg[16]),.int .u8 (x.s.bd.rq.tg[17]),.int .u8 (x.s.bd.rq.tg[18]),.int .u8 (x.s.bd.rq.tg[19]),.int .u8 (x.s.bd.rq.tg[20]),.int .u8 (x.s.bd.rq.tg[21]),.int .u8 (x.s.bd.rq.tg[22]),.int .u8 (x.s.bd.rq.tg[23]),.int .u8 (x.s.bd.rq.tg[24]),.int .u8 (x.s.bd.rq.tg[25]),.int .u8 (x.s.bd.rq.tg[26]),.int .u8 (x.s.bd.rq.tg[27]),.int .u8 (x.s.bd.rq.tg[28]),.int .u8 (x.s.bd.rq.tg[29]),.int .u8 (x.s.bd.rq.tg[30]),.int .u8 (x.s.bd.rq.tg[31]),.slice x.s.bd.qa x.s.bd.ql.length x.s.bd.qc,.int .u8 (x.s.bd.dg[0]),.int .u8 (x.s.bd.dg[1]),.int .u8 (x.s.bd.dg[2]),.int .u8 (x.s.bd.dg[3]),.int .u8 (x.s.bd.dg[4]),.int .u8 (x.s.bd.dg[5]),.int .u8 (x.s.bd.dg[6]),.int .u8 (x.s.bd.dg[7]),.int .u8 (x.s.bd.dg[8]),.int .u8 (x.s.bd.dg[9]),.int .u8 (x.s.bd.dg[10]),.int .u8 (x.s.bd.dg[11]),.int .u8 (x.s.bd.dg[12]),.int .u8 (x.s.bd.dg[13]),.int .u8 (x.s.bd.dg[14]),.int .u8 (x.s.bd.dg[15]),.int .u8 (x.s.bd.dg[16]),.int .u8 (x.s.bd.dg[17]),.int .u8 (x.s.bd.dg[18]),.int .u8 (x.s.bd.dg[19]),.int .u8 (x.s.bd.dg[20]),.int .u8 (x.s.bd.dg[21]),.int .u8 (x.s.bd.dg[22]),.int .u8 (x.s.bd.dg[23]),.int .u8 (x.s.bd.dg[24]),.int .u8 (x.s.bd.dg[25]),.int .u8 (x.s.bd.dg[26]),.int .u8 (x.s.bd.dg[27]),.int .u8 (x.s.bd.dg[28]),.int .u8 (x.s.bd.dg[29]),.int .u8 (x.s.bd.dg[30]),.int .u8 (x.s.bd.dg[31]),.int .i64 x.s.pk.fr,.int .i64 x.s.pk.tw,.int .u64 (x.s.pk.kn[0]),.int .u64 (x.s.pk.kn[1]),.int .u64 (x.s.pk.kn[2]),.int .u64 (x.s.pk.kn[3]),.int .u64 (x.s.pk.kn[4]),.int .u64 (x.s.pk.kn[5]),.int .u64 (x.s.pk.kn[6]),.int .u64 (x.s.pk.kn[7]),.int .u64 (x.s.pk.kn[8]),.int .u64 (x.s.pk.kn[9]),.int .u64 (x.s.pk.kn[10]),.slice x.s.pk.ma x.s.pk.ml.length x.s.pk.mc,.int .u64 x.s.tm,.int .i64 x.s.re.er,.string x.s.re.vl,.int .u64 x.s.at_,.slice x.s.pa x.s.pl.length x.s.pc,.bool x.nr]
abbrev dS6:TS6:=⟨dSt,false⟩
theorem dS6F:CellF TS6.cells 108:=⟨fun _=>rfl,fun _=>rfl⟩
theorem topsOK:ElemOK Tryz.prog 61 31 6 80:=⟨by kernel_rfl,⟨Tryz.t31,.agg (TOp.cells dOp),by kernel_rfl,by kernel_rfl,by kernel_rfl,by kernel_rfl,by kernel_rfl⟩,by decide⟩
theorem few9_spec {ao:Option Addr}{co:Nat}(os) (hr:Rw w0 L TOp.cells 6 dOp ao os) (hs:St w0 (L) w):Cs Tryz.prog 12 #[.slice ao os.length co] w fun rv w'=>∃ bb2,rv=.bool bb2∧St w0 (L) w':=by
 refine Zen Tryz.func12 Tryz.ntmps12 (En (Lq (Ls (Lq (Dz (Zi ((os.length:Int)>150) (fun f=>?_) (fun f=>?_)))))))
 ·exact En (Lq (Le (Ly (Dz (Zq1 (v:=.bool false) ⟨false,rfl,hs⟩)))))
 ·refine En (Lk (Lt (Ls (Lq (Lb (Dz (GoC.loop (T:=Nat×(Option Addr)) (fun gg=>[(0,.slice gg.2 os.length co),(3,.int .i64 (gg.1:Nat))]) (fun gg w=>(gg.1≤os.length∧∀ w,St w0 L w→RowsAt w gg.2 os.length 6 (fun q=>TOp.cells (os.getD q dOp)))∧St w0 (L) w) (fun gg=>os.length-gg.1) (0,ao) [0,3] (by kernel_rfl) ⟨⟨Nat.zero_le _,hr⟩,hs⟩ ?_)))))))
  rintro⟨k,aq⟩ u ⟨hp,e⟩
  dsimp only at hp e
  have hw:=hp.2
  refine En (Ls (Lq (Dz (Zi ((k:Int)<(os.length:Nat)) (fun i=>?_) (fun i=>?_)))))
  ·obtain⟨a,b,rfl⟩:=RowsAt.isSome (hw _ (e.drop 0)) (by omega)
   refine Zk (Zt (Zs (Zb (Zs (ZD (rds [0,1,2,3,4,5,6,7,8,9,10,11,12,13,14,15,16,17,18,19,20,21,22,23,24,25,26,27] .done) e fun x d z=>Zjd (Hx 2 (k:Int) (os.length:Int) a b 6 (Hg 4 (.gen [.string ((os.getD k dOp).ky)]) [.cell ⟨a,b+(k*6)+1,none⟩ (.string ((os.getD k dOp).ky))] (okc (RowsAt.at0 (hw _ (d.drop 0)) (k:=k) (by first|omega|(simp only [List.length_set];omega)|(simp only [List.length_set,lA,lC,lN];omega)) (j:=1) (by decide) (by kernel_rfl)) ok0) (Hx 8 (k:Int) (os.length:Int) a b 6 (Hg 10 (.gen [.string ((os.getD k dOp).va)]) [.cell ⟨a,b+(k*6)+2,none⟩ (.string ((os.getD k dOp).va))] (okc (RowsAt.at0 (hw _ (d.drop 0)) (k:=k) (by first|omega|(simp only [List.length_set];omega)|(simp only [List.length_set,lA,lC,lN];omega)) (j:=2) (by decide) (by kernel_rfl)) ok0) (Hx 15 (k:Int) (os.length:Int) a b 6 (Hg 17 (.gen [.string ((os.getD k dOp).ol)]) [.cell ⟨a,b+(k*6)+3,none⟩ (.string ((os.getD k dOp).ol))] (okc (RowsAt.at0 (hw _ (d.drop 0)) (k:=k) (by first|omega|(simp only [List.length_set];omega)|(simp only [List.length_set,lA,lC,lN];omega)) (j:=3) (by decide) (by kernel_rfl)) ok0) (Hx 22 (k:Int) (os.length:Int) a b 6 (Hg 24 (.gen [.string ((os.getD k dOp).tx)]) [.cell ⟨a,b+(k*6)+4,none⟩ (.string ((os.getD k dOp).tx))] (okc (RowsAt.at0 (hw _ (d.drop 0)) (k:=k) (by first|omega|(simp only [List.length_set];omega)|(simp only [List.length_set,lA,lC,lN];omega)) (j:=4) (by decide) (by kernel_rfl)) ok0) Hz)))))))) (Zt (Zi ((IntKind.i64.wrap ((IntKind.i64.wrap ((IntKind.i64.wrap ((((os.getD k dOp).ky).size:Nat)+(((os.getD k dOp).va).size:Nat)))+(((os.getD k dOp).ol).size:Nat)))+(((os.getD k dOp).tx).size:Nat)):Int)>2000) (fun o=>?_) (fun o=>?_))))))))
   ·exact En (Lq (Le (Ll (Ly (LsR (Ll (Ly (Dz (Zq1 (v:=.bool false) ⟨false,rfl,d⟩)))))))))
   ·exact Zk (Zm (Zt (Zaj (Hwi 1 ((k:Nat)+1) Hz) (GoQ.back (k+1,some ⟨a,b,none⟩) [0,3] (by kernel_rfl) (by show os.length-(k+1)<os.length-k;omega) ⟨⟨by omega,hw⟩,d⟩))))
  ·exact En (Lx (LsC (LsL (Lh (Lt (Lq (Le (Dz (Zq1 (v:=.bool true) ⟨true,rfl,e⟩)))))))))
theorem few6_spec {al:Option Addr}{cl:Nat}(ls) (hmr:∀ k,k<ls.length→Rw w0 L TMs.cells 121 dMs (ls.getD k dS6).s.pk.ma (ls.getD k dS6).s.pk.ml) (hr:Rw w0 L TS6.cells 108 dS6 al ls) (hs:St w0 (L) w):Cs Tryz.prog 4 #[.slice al ls.length cl,.int .i64 10] w fun rv w'=>∃ bb2,rv=.bool bb2∧(bb2=true→ls.length≤10)∧St w0 (L) w':=by
 refine Zen Tryz.func4 Tryz.ntmps4 (En (Lq (Ls (Lq (Dz (Zi ((ls.length:Int)>10) (fun b2=>?_) (fun b2=>?_)))))))
 ·exact En (Lq (Le (Ly (Dz (Zq1 (v:=.bool false) ⟨false,rfl,(fun h9=>(by cases h9)),hs⟩)))))
 ·have a6:ls.length≤10:=by omega
  refine En (Lk (Lt (Lq (Ls (Lq (Lb (Dz ?_)))))))
  have b3:St w0 ((Sl none 0 31 6 TOp.cells ([]:List TOp))::L) w:=St.slNil hs 31 6 TOp.cells
  refine Zn [(6,.int .i64 0),(5,.slice none 0 0),(4,.bool false),(0,.slice al ls.length cl)] (Zn [(6,.int .i64 0),(5,.slice none (([]:List TOp).length) 0),(4,.bool false),(0,.slice al ls.length cl)] (GoC.loop (T:=Nat×(Option Addr)×(List TOp)×(Option Addr)×Nat) (fun gg=>[(0,.slice gg.2.1 ls.length cl),(5,.slice gg.2.2.2.1 gg.2.2.1.length gg.2.2.2.2),(6,.int .i64 (gg.1:Nat))]) (fun gg w=>(gg.1≤ls.length∧gg.2.2.1.length=2*gg.1∧∀ w,St w0 L w→RowsAt w gg.2.1 ls.length 108 (fun q=>TS6.cells (ls.getD q dS6)))∧St w0 ((Sl gg.2.2.2.1 gg.2.2.2.2 31 6 TOp.cells gg.2.2.1)::L) w) (fun gg=>ls.length-gg.1) (0,al,([]:List TOp),none,0) [0,5,6] (by kernel_rfl) ⟨⟨Nat.zero_le _,rfl,hr⟩,b3⟩ ?_))
  rintro⟨k,aq,os,ao,co⟩ w3 ⟨hp,a2⟩
  dsimp only at hp a2
  have hw:=hp.2.2
  refine En (Ls (Lq (Dz (Zi ((k:Int)<(ls.length:Nat)) (fun b4=>?_) (fun b4=>?_)))))
  ·have hk:k<ls.length:=by omega
   obtain⟨o,u,rfl⟩:=RowsAt.isSome (hw _ (a2.drop 1)) (by omega)
   refine Zk (Zt (Zs (Zb (Zs (Zgj [5,6] (Hx 2 (k:Int) (ls.length:Int) o u 108 (Hg 4 (.agg (TSt.cells ((ls.getD k dS6).s))) [.prop (Array.size (TSt.cells ((ls.getD k dS6).s))=107),.cells ⟨o,u+(k*108),none⟩ (TSt.cells ((ls.getD k dS6).s))] (okp (by kernel_rfl) (oka (RowsAt.all0 (hw _ (a2.drop 1)) (by first|omega|(simp only [List.length_set];omega)|(simp only [List.length_set,lA,lC,lN];omega)) (Nat.le_of_ble_eq_true (by kernel_rfl)) (by kernel_rfl)) ok0)) Hz)) (Zag (TSt.cells dSt) a2 fun d e5 b5=>Lo (Dz (Zu 0 0 (TSt.cells ((ls.getD k dS6).s)) b5 fun e6 a0=>Lo (Ld (Lt (Ls (Ls (Dz (GoC.join (T:=Unit) (E:=fun _=>[(48,.bool ((((decide ((((((ls.getD k dS6).s).bd).ql.length:Nat):Int)>20)) || (decide ((((((ls.getD k dS6).s).pk).ml.length:Nat):Int)>20))) || (decide (((((ls.getD k dS6).s).pl.length:Nat):Int)>60))) || (decide (((((((ls.getD k dS6).s).re).vl).size:Nat):Int)>1000)))),(7,zP d 0),(0,zL o u ls.length cl),(5,.slice ao os.length co),(6,.int .i64 (k:Nat))]) (F:=fun _ w=>St w0 ((Cel d (TSt.cells ((ls.getD k dS6).s)) 47)::(Sl ao co 31 6 TOp.cells os)::L) w) ?_ ?_))))))))))))))
   ·refine Zg [] (Zpj 0 6 (Hl 2 0 55 a0 Hz) (Zsq 29 (decide ((((((ls.getD k dS6).s).bd).ql.length:Nat):Int)>20)) (fun b=>?_) (fun b=>?_)))
    ·exact En (Lud (Dz (GoQ.pick [48,7,0,5,6] (S':=[(48,.bool true),(7,zP d 0),(0,zL o u ls.length cl),(5,.slice ao os.length co),(6,.int .i64 (k:Nat))]) (by kernel_rfl) (GoQ.meet1 () (by first|rfl|(simp only [b,Bool.not_true,Bool.not_false,Bool.true_or,Bool.false_or,Bool.true_and,Bool.false_and,Bool.or_true,Bool.or_false,Bool.and_true,Bool.and_false];done)|(simp [b];done)) a0))))
    ·refine Zpj 6 7 (Hl 8 0 101 a0 Hz) (Zsq 36 (decide ((((((ls.getD k dS6).s).pk).ml.length:Nat):Int)>20)) (fun x=>?_) (fun x=>?_))
     ·exact En (Lud (Dz (GoQ.pick [48,7,0,5,6] (S':=[(48,.bool true),(7,zP d 0),(0,zL o u ls.length cl),(5,.slice ao os.length co),(6,.int .i64 (k:Nat))]) (by kernel_rfl) (GoQ.meet1 () (by first|rfl|(simp only [b,x,Bool.not_true,Bool.not_false,Bool.true_or,Bool.false_or,Bool.true_and,Bool.false_and,Bool.or_true,Bool.or_false,Bool.and_true,Bool.and_false];done)|(simp [b,x];done)) a0))))
     ·refine Zpj 13 6 (Hl 14 0 106 a0 Hz) (Zsq 42 (decide (((((ls.getD k dS6).s).pl.length:Nat):Int)>60)) (fun a1=>?_) (fun a1=>?_))
      ·exact En (Lud (Dz (GoQ.pick [48,7,0,5,6] (S':=[(48,.bool true),(7,zP d 0),(0,zL o u ls.length cl),(5,.slice ao os.length co),(6,.int .i64 (k:Nat))]) (by kernel_rfl) (GoQ.meet1 () (by first|rfl|(simp only [b,x,a1,Bool.not_true,Bool.not_false,Bool.true_or,Bool.false_or,Bool.true_and,Bool.false_and,Bool.or_true,Bool.or_false,Bool.and_true,Bool.and_false];done)|(simp [b,x,a1];done)) a0))))
      ·exact Zjd (Hl 21 0 104 a0 Hz) (GoQ.pick [48,7,0,5,6] (S':=[(48,.bool (decide (((((((ls.getD k dS6).s).re).vl).size:Nat):Int)>1000))),(7,zP d 0),(0,zL o u ls.length cl),(5,.slice ao os.length co),(6,.int .i64 (k:Nat))]) (by kernel_rfl) (GoQ.meet1 () (by first|rfl|(simp only [b,x,a1,Bool.not_true,Bool.not_false,Bool.true_or,Bool.false_or,Bool.true_and,Bool.false_and,Bool.or_true,Bool.or_false,Bool.and_true,Bool.and_false];done)|(simp [b,x,a1];done)) a0))
   intro _ c0 a7
   refine Zt (Zqc (t:=(((decide ((((((ls.getD k dS6).s).bd).ql.length:Nat):Int)>20)) || (decide ((((((ls.getD k dS6).s).pk).ml.length:Nat):Int)>20))) || (decide (((((ls.getD k dS6).s).pl.length:Nat):Int)>60))) || (decide (((((((ls.getD k dS6).s).re).vl).size:Nat):Int)>1000))) (fun a3=>?_) (fun a3=>?_))
   ·exact En (Lq (Le (Ly (Ll (Ly (LsR (Ll (Ly (Dz (Zq1 (v:=.bool false) ⟨false,rfl,(fun h9=>(by cases h9)),(a7.dr 2)⟩))))))))))
   ·have a8:=(Bool.or_eq_false_iff.1 a3).1
    have h19aa:=(Bool.or_eq_false_iff.1 a8).1
    have h19aaa:=(Bool.or_eq_false_iff.1 h19aa).1
    have h19aaa':=of_decide_eq_false h19aaa
    have h19aab:=(Bool.or_eq_false_iff.1 h19aa).2
    have h19aab':=of_decide_eq_false h19aab
    have h19ab:=(Bool.or_eq_false_iff.1 a8).2
    have h19ab':=of_decide_eq_false h19ab
    have c2:=(Bool.or_eq_false_iff.1 a3).2
    have e7:=of_decide_eq_false c2
    have a6:ls.length≤10:=by omega
    refine En (Lk (Lt (Ls (Lq (Lb (Dz ?_))))))
    have c3:=((a7.pl 0).pl 1)
    obtain⟨s,hsx⟩:∃ s,s=(ls.getD k dS6).s:=⟨_,rfl⟩
    have hml:s.pk.ml.length≤20:=by rw [hsx];omega
    obtain⟨a9,b0⟩:∃ a,a=s.pk.ma:=⟨_,rfl⟩
    have c4:St w0 ((Sl ao co 31 6 TOp.cells os)::(Cel d (TSt.cells (⟨s.dw,s.cl,s.wh,s.j,s.k,s.n,s.op,s.bd,(⟨s.pk.fr,s.pk.tw,s.pk.kn,a9,s.pk.mc,s.pk.ml⟩:TPk),s.tm,s.re,s.at_,s.pa,s.pc,s.pl⟩:TSt)) 47)::L) c0:=(by rw [b0,hsx];exact c3)
    refine GoC.loop (T:=Nat×(Option Addr)) (fun gg=>[(0,zL o u ls.length cl),(5,.slice ao os.length co),(6,.int .i64 (k:Nat)),(7,zP d 0),(8,.int .i64 (gg.1:Nat))]) (fun gg w=>(gg.1≤s.pk.ml.length∧∀ w,St w0 L w→RowsAt w gg.2 s.pk.ml.length 121 (fun q=>TMs.cells (s.pk.ml.getD q dMs)))∧St w0 ((Sl ao co 31 6 TOp.cells os)::(Cel d (TSt.cells (⟨s.dw,s.cl,s.wh,s.j,s.k,s.n,s.op,s.bd,(⟨s.pk.fr,s.pk.tw,s.pk.kn,gg.2,s.pk.mc,s.pk.ml⟩:TPk),s.tm,s.re,s.at_,s.pa,s.pc,s.pl⟩:TSt)) 47)::L) w) (fun gg=>s.pk.ml.length-gg.1) (0,a9) [0,5,6,7,8] (by kernel_rfl) ⟨⟨Nat.zero_le _,by rw [b0,hsx];exact hmr k hk⟩,c4⟩ ?_
    rintro⟨jj,am⟩ e8 ⟨hpm,i⟩
    dsimp only at hpm i
    have hwm:=hpm.2
    refine Zs (Zs (Zaj (Hl 3 1 101 i Hz) (Zt (Zi ((jj:Int)<(s.pk.ml.length:Nat)) (fun c5=>?_) (fun c5=>?_)))))
    ·obtain⟨a4,a5,rfl⟩:=RowsAt.isSome (hwm _ (i.drop 2)) (by omega)
     refine Zk (Zt (Zs (Zb (Zs (Zaj (Hl 2 1 101 i (Hx 4 (jj:Int) (s.pk.ml.length:Int) a4 a5 121 (Hg 7 (.gen [.slice (((s.pk.ml.getD jj dMs).bd).qa) (((s.pk.ml.getD jj dMs).bd).ql.length) (((s.pk.ml.getD jj dMs).bd).qc)]) [.cell ⟨a4,a5+(jj*121)+13+43,none⟩ (.slice (((s.pk.ml.getD jj dMs).bd).qa) (((s.pk.ml.getD jj dMs).bd).ql.length) (((s.pk.ml.getD jj dMs).bd).qc))] (okc (RowsAt.at0 (hwm _ (i.drop 2)) (k:=jj) (by first|omega|(simp only [List.length_set];omega)|(simp only [List.length_set,lA,lC,lN];omega)) (j:=56) (by decide) (by kernel_rfl)) ok0) Hz))) (Zt (Zi (((((s.pk.ml.getD jj dMs).bd).ql.length:Nat):Int)>20) (fun c6=>?_) (fun c6=>?_))))))))
     ·exact En (Lq (Le (Ll (Ly (LsR (Ll (Ly (Ll (Ly (LsR (Ll (Ly (Dz (Zq1 (v:=.bool false) ⟨false,rfl,(fun h9=>(by cases h9)),(i.dr 2)⟩))))))))))))))
     ·exact Zk (Zm (Zt (Zaj (Hwi 1 ((jj:Nat)+1) Hz) (GoQ.back (jj+1,some ⟨a4,a5,none⟩) [0,5,6,7,8] (by kernel_rfl) (by show s.pk.ml.length-(jj+1)<s.pk.ml.length-jj;omega) ⟨⟨by omega,hwm⟩,i⟩))))
    ·refine Zx (GoQ.skipC (GoQ.skipL (GoQ.hit (Zt (Zgj [7,8] (Hla 2 1 6 6 (TOp.cells s.op) i (Hla 6 1 17 6 (TOp.cells s.bd.rq.op) i Hz)) (GoR.sliceLit rfl (by kernel_rfl) (t:=61) (e:=31) (n:=2) (ps:=[(0,.agg (TOp.cells s.op)),(1,.agg (TOp.cells s.bd.rq.op))]) (by kernel_rfl) (by kernel_rfl) (ti:=Tryz.t31) (z:=.agg (TOp.cells dOp)) (by kernel_rfl) (by kernel_rfl) (by decide) (by decide) (cs:=TOp.cells s.op++TOp.cells s.bd.rq.op) (by kernel_rfl) i fun c8 c9 d0 d1=>?_))))))
     have d2:St w0 ((Sl (some ⟨c8,0,none⟩) 2 31 6 TOp.cells ([(s.op:TOp),(s.bd.rq.op:TOp)]))::(Sl ao co 31 6 TOp.cells os)::(Cel d (TSt.cells (⟨s.dw,s.cl,s.wh,s.j,s.k,s.n,s.op,s.bd,(⟨s.pk.fr,s.pk.tw,s.pk.kn,am,s.pk.mc,s.pk.ml⟩:TPk),s.tm,s.re,s.at_,s.pa,s.pc,s.pl⟩:TSt)) 47)::L) c9:=St.slOf (l:=[(s.op:TOp),(s.bd.rq.op:TOp)]) (f:=TOp.cells) d0 d1 (dOpF).size (by simp only [lC,lN,maxLen];omega) (by kernel_rfl)
     refine Lo (Dz (Zap topsOK dOpF dOp (d2.pl 1) (by simp only [lA,lC,lN,List.length_map] at *;omega) fun d4 d5 e9 d6=>Lo (Lud (Lm (Lt (Dz (Zaj (Hwi 1 ((k:Nat)+1) Hz) ?_)))))))
     have d7:=(((d6.pl 0).pl 2).pl 2)
     exact GoQ.back (k+1,some ⟨o,u,none⟩,os++([(s.op:TOp),(s.bd.rq.op:TOp)]),d4,d5) [0,5,6] (by kernel_rfl) (by show ls.length-(k+1)<ls.length-k;omega) ⟨⟨by omega,by simp only [lA,lC,lN];omega,hw⟩,(d7.dr 2)⟩
  ·have hke:k=ls.length:=by omega
   have hol:=hp.2.1
   refine En (Lx (LsC (LsL (Lh (Lt (Ls (Lg [5,14,19] (Dz (Zr 0 4 [] (Zsd 79 ((os.length:Int)≤150) (fun d9=>?_) (fun d9=>?_)))))))))))
   ·refine En (Lw (Zqa (f:=12) (args:=#[.slice ao os.length co]) Tryz.call12 (few9_spec os (fun w h=>h.rows 0 rfl (dOpF).size _) a2) ?_))
    rintro f0 f1 ⟨e0,rfl,b1⟩
    refine Lo (Dz (Zr 6 2 [] (Zsq 83 e0 (fun e1=>?_) (fun e1=>?_))))
    ·exact En (Lw (Zsk (En (Lw (Zsk (En (Lud (Lt (Le (Dz (Zq1 (v:=.bool true) ⟨true,rfl,(fun _=>a6),(b1.dr 1)⟩)))))))))))
    ·refine Zr 8 4 [] (Zsd 87 ((os.length:Int)>150) (fun e3=>?_) (fun e3=>?_))
     ·exfalso;omega
     ·exact En (Lw (Zsk (En (Lw (Zsk (En (Lud (Lt (Le (Dz (Zq1 (v:=.bool false) ⟨false,rfl,(fun h9=>(by cases h9)),(b1.dr 1)⟩)))))))))))
   ·exfalso;omega
theorem odd_spec (nz) (hnz:nz<256) (hs:St w0 (L) w):Cs Tryz.prog 8 #[.int .u8 (nz:Nat)] w fun rv w'=>∃ od2,rv=.int .i64 od2∧St w0 (L) w':=by
 exact Zen Tryz.func8 Tryz.ntmps8 (En (Lq (Ls (Dz (Zaj (Hg 1 (.div ((nz:Nat) % 5)) [.prop (IntKind.u8=IntKind.u8∧(5:Int)≠0∧Int.tmod (nz:Nat) 5=(nz:Nat) % 5)] (okp ⟨rfl,by decide,Int.tmod_eq_emod_of_nonneg (by first|omega|exact Int.natCast_nonneg _)⟩ ok0) (Hwi 2 ((nz:Nat) % 5) (Hwi 3 (2*((nz:Nat) % 5)) (Hwi 4 (3+(2*((nz:Nat) % 5))) Hz)))) (Zt (Ze (Zq1 (v:=.int .i64 (3+(2*((nz:Nat) % 5)))) ⟨3+(2*((nz:Nat) % 5)),rfl,hs⟩))))))))
theorem again_spec (b) (hsome:Som ad cb) (hbl:b.length≤1000000) (hbb:Byt b) (hno:runP b=none) (hr:Rw w0 L byteC 1 0 ad b) (hs:St w0 (L) w):Cs Tryz.prog 11 #[.slice ad b.length cb] w fun rv w'=>rv=.tuple #[.pointer none,.slice none 0 0,.int .i64 5]∧St w0 (L) w':=by
 refine Zen Tryz.func11 Tryz.ntmps11 (En (Lq (Ls (Lg [1] (Lw (Zc (read_spec b hsome (by omega) hbb (fun w h=>hr _ (h.drop 0)) hs) ?_))))))
 rintro f i (⟨rfl,o,d⟩|⟨q,u,x,z,a0,a1,a2,rfl,e,a3⟩)
 ·exact Lz (Ls (Lq (LT (Lq (Le (Ly (Dz (GoQ.done (.inl rfl) (v:=.tuple #[.pointer none,.slice none 0 0,.int .i64 5]) (fun a hf=>results3 rfl (by kernel_rfl) (by kernel_rfl) (by kernel_rfl) a hf) ⟨rfl,d⟩))))))))
 ·exact absurd (e.symm.trans hno) (by nofun)
end
section
variable {w0 w : World} {L : List Asn} {ad : Option Addr}
theorem runB_bd {n:Int}:∀ {l:List TSt},(∀ y∈l,(putS y).length≤12000)→(runB n (l.map putS)).length≤1+12002*l.length
 | [],_=>Nat.le_refl _
 | x::l,h=>by
  have h1:=runB_bd (n:=n) fun y hy=>h y (List.mem_cons_of_mem _ hy)
  have h2:=h x (List.mem_cons_self ..)
  unfold runB at h1 ⊢
  simp only [List.map_cons,List.flatMap_cons,lC,lA,loS_length] at h1 ⊢
  omega
theorem runB_byt {n:Int}{l:List TSt}(h:∀ y∈l,Byt (putS y)):Byt (runB n (l.map putS)):=fun z hz=>by
 rcases List.mem_cons.1 hz with rfl|hz
 ·exact u8wrap_b _
 ·obtain⟨x,hx,hz⟩:=List.mem_flatMap.1 hz
  obtain⟨y,hy,rfl⟩:=List.mem_map.1 hx
  exact loS_byt (h y hy) z hz
theorem byt_set {l:List Int}{i:Nat}{v:Int}(h:Byt l) (hv:0≤v∧v<256):Byt (l.set i v):=fun z hz=>by
 rcases List.mem_or_eq_of_mem_set hz with hz|rfl
 ·exact h z hz
 ·exact hv
theorem SOK.byt {w0:World}{L:List Asn}{s:TSt}(h:SOK w0 L s):Byt (putS s):=putS_byt h.ok fun m hm=>by
 obtain⟨k,hk,rfl⟩:=List.getElem_of_mem hm
 have h1:=(h.ms k hk).1
 rw [List.getD_eq_getElem?_getD,List.getElem?_eq_getElem hk] at h1
 exact h1
theorem som_of {w:World}{n size c:Nat}{f:Nat→Array Value}(h:RowsAt w ad n size f) (hn:0<n):Som ad c:=let ⟨b,off,e,_⟩:=h (by omega);.inl ⟨b,off,e⟩
def RowQ (ad:Option Addr) (b:List Int):Asn:=⟨fun _=>True,fun w=>RowsAt w ad b.length 1 (fun k=>byteC (b.getD k (0:Int))),fun w w' h h1 hn=>by
 obtain⟨c,off,he,h2⟩:=h1 hn
 exact⟨c,off,he,fun k hk i hi=>(World.cell?_of_block (h _ trivial)).trans (h2 k hk i hi)⟩⟩
theorem raw_spec {ar:Option Addr}{cr:Nat}{al:Option Addr}{cl:Nat}(rw:List Int) (nz:Nat) (ls:List TS6) (atz:Nat) (by_:Int) (kz:Int) (hcr:rw.length≤cr) (hrb:Byt rw) (hnz:nz<256) (hat:atz<65536) (hyl:∀ k,k<ls.length→SOK w0 L (ls.getD k dS6).s) (hwk:∀ (M:List Asn) (w:World),St w0 (M++L) w→Calls Tryz.prog 5 #[] w (Ret fun rv w'=>rv=.bool true∧St w0 (M++L) w')) (hr1:Rw w0 L byteC 1 0 ar rw) (hr2:Rw w0 L TS6.cells 108 dS6 al ls) (hs:St w0 (L) w):Calls Tryz.prog 3 #[.slice ar rw.length cr,.int .u8 (nz:Nat),.slice al ls.length cl,.int .u16 (atz:Nat),.int .u8 by_,.int .i64 kz] w (Ret fun rv w'=>rv=.bool true∧St w0 (L) w'):=by
 refine Zen Tryz.func3 Tryz.ntmps3 (En (Lq (Ls (Ls (Lg [5] (Dz (Zqk [(0,.gen []),(1,.gen []),(2,.gen []),(3,.gen [])] [] [(27,.bool (decide ((rw.length:Int)>4000))),(12,.bool false),(0,.slice ar rw.length cr),(1,.int .u8 (nz:Nat)),(2,.slice al ls.length cl),(3,.int .u16 (atz:Nat)),(4,.int .u8 by_),(5,.int .i64 kz)] ak0 (Zsq 27 (decide ((rw.length:Int)>4000)) (fun h1=>?_) (fun h1=>?_)))))))))
 ·have e9:=of_decide_eq_true h1
  refine En (Lw (Zsk (En (Lud (Lt (LT (Ls (Lg [0] (Dz (Zqa (f:=5) (args:=#[]) Tryz.call5 ((show Calls Tryz.prog 5 #[] w (Ret fun rv w'=>rv=.bool true∧St w0 (L) w') from hwk [] _ hs)) ?_))))))))))
  rintro v3 w4 ⟨rfl,f0⟩
  exact Lz (Le (Ly (Dz (Zq1 (v:=.bool true) ⟨rfl,f0⟩))))
 ·have e9:=of_decide_eq_false h1
  have d5:rw.length≤4000:=by omega
  refine En (Lw (Zqa (f:=4) (args:=#[.slice al ls.length cl,.int .i64 10]) Tryz.call4 (few6_spec ls (fun k hk w h=>(hyl k hk).r2 w (h.drop 0)) (fun w h=>hr2 _ (h.drop 0)) hs) ?_))
  rintro v8 w9 ⟨b7,rfl,f1,d6⟩
  refine Lz (Dz (Zqc (t:=!b7) (fun b8=>?_) (fun b8=>?_)))
  ·refine En (Ls (Lg [0] (Dz (Zqa (f:=5) (args:=#[]) Tryz.call5 ((show Calls Tryz.prog 5 #[] w9 (Ret fun rv w'=>rv=.bool true∧St w0 (L) w') from hwk [] _ d6)) ?_))))
   rintro l5 l6 ⟨rfl,f3⟩
   exact Lz (Le (Ly (Dz (Zq1 (v:=.bool true) ⟨rfl,f3⟩))))
  ·have l7:ls.length≤10:=f1 (by revert b8;cases b7<;>simp)
   refine En (Lk (Lt (Lq (Ls (Lq (Lb (Dz (Zn [(14,.int .i64 0),(13,.slice none (([]:List TSt).length) 0),(12,.bool false),(0,.slice ar rw.length cr),(1,.int .u8 (nz:Nat)),(2,.slice al ls.length cl),(3,.int .u16 (atz:Nat)),(4,.int .u8 by_),(5,.int .i64 kz)] (GoC.loop (T:=Nat×(Option Addr)×(List TSt)×(Option Addr)×Nat) (fun gg=>[(0,.slice ar rw.length cr),(1,.int .u8 (nz:Nat)),(2,.slice gg.2.1 ls.length cl),(3,.int .u16 (atz:Nat)),(4,.int .u8 by_),(5,.int .i64 kz),(12,.bool false),(13,.slice gg.2.2.2.1 gg.2.2.1.length gg.2.2.2.2),(14,.int .i64 (gg.1:Nat))]) (fun gg w=>(gg.1≤ls.length∧gg.2.2.1.length≤gg.1∧(∀ y∈gg.2.2.1,SOK w0 L y∧(putS y).length≤12000)∧∀ w,St w0 L w→RowsAt w gg.2.1 ls.length 108 (fun q=>TS6.cells (ls.getD q dS6)))∧St w0 ((Sl gg.2.2.2.1 gg.2.2.2.2 47 107 TSt.cells gg.2.2.1)::L) w) (fun gg=>ls.length-gg.1) (0,al,([]:List TSt),none,0) [0,1,2,3,4,5,12,13,14] (by kernel_rfl) ⟨⟨Nat.zero_le _,Nat.le_refl _,fun y hy=>(by cases hy),hr2⟩,(St.slNil d6 47 107 TSt.cells)⟩ ?_)))))))))
   rintro⟨k,aq,ys,sa,sc⟩ l8 ⟨hp,b2⟩
   dsimp only at hp b2
   have hw:=hp.2.2.2
   refine En (Ls (Lq (Dz (Zi ((k:Int)<(ls.length:Nat)) (fun f5=>?_) (fun f5=>?_)))))
   ·have hk:k<ls.length:=by omega
    obtain⟨a6,a7,rfl⟩:=RowsAt.isSome (hw _ (b2.drop 1)) (by omega)
    refine Zk (Zt (Zs (Zb (Zs (Zgj [5] (Hx 2 (k:Int) (ls.length:Int) a6 a7 108 (Hg 4 (.agg (TSt.cells ((ls.getD k dS6).s))) [.prop (Array.size (TSt.cells ((ls.getD k dS6).s))=107),.cells ⟨a6,a7+(k*108),none⟩ (TSt.cells ((ls.getD k dS6).s))] (okp (by kernel_rfl) (oka (RowsAt.all0 (hw _ (b2.drop 1)) (by first|omega|(simp only [List.length_set];omega)|(simp only [List.length_set,lA,lC,lN];omega)) (Nat.le_of_ble_eq_true (by kernel_rfl)) (by kernel_rfl)) ok0)) Hz)) (Zc1 (rmayS_spec ((ls.getD k dS6).s) (hyl k hk).ok (fun j hj=>⟨((hyl k hk).ms j hj).1,fun w h=>((hyl k hk).ms j hj).2 w (h.drop 1)⟩) (fun w h=>(hyl k hk).r1 w (h.drop 1)) (fun w h=>(hyl k hk).r2 w (h.drop 1)) (fun w h=>(hyl k hk).r3 w (h.drop 1)) b2) fun m0 b3=>Lo (Dz (Zqk [(6,.gen [])] [] [(45,.bool (mayS ((ls.getD k dS6).s))),(0,.slice ar rw.length cr),(1,.int .u8 (nz:Nat)),(2,zL a6 a7 ls.length cl),(3,.int .u16 (atz:Nat)),(4,.int .u8 by_),(5,.int .i64 kz),(12,.bool false),(13,.slice sa ys.length sc),(14,.int .i64 (k:Nat))] ak0 (Zsq 45 (mayS ((ls.getD k dS6).s)) (fun d7=>?_) (fun d7=>?_))))))))))
    ·have hmy:mayS (ls.getD k dS6).s=true:=d7
     refine Zjd (Hx 9 (k:Int) (ls.length:Int) a6 a7 108 (Hg 12 (.gen [.int .i64 (((ls.getD k dS6).s).n)]) [.cell ⟨a6,a7+(k*108)+5,none⟩ (.int .i64 (((ls.getD k dS6).s).n))] (okc (RowsAt.at0 (hw _ (b3.drop 1)) (k:=k) (by first|omega|(simp only [List.length_set];omega)|(simp only [List.length_set,lA,lC,lN];omega)) (j:=5) (by decide) (by kernel_rfl)) ok0) Hz)) (Zt (Zi ((((ls.getD k dS6).s).n:Int)<1048576) (fun f6=>?_) (fun f6=>?_)))
     ·refine Zgj [6,7] (Hx 3 (k:Int) (ls.length:Int) a6 a7 108 (Hg 5 (.agg (TSt.cells ((ls.getD k dS6).s))) [.prop (Array.size (TSt.cells ((ls.getD k dS6).s))=107),.cells ⟨a6,a7+(k*108),none⟩ (TSt.cells ((ls.getD k dS6).s))] (okp (by kernel_rfl) (oka (RowsAt.all0 (hw _ (b3.drop 1)) (by first|omega|(simp only [List.length_set];omega)|(simp only [List.length_set,lA,lC,lN];omega)) (Nat.le_of_ble_eq_true (by kernel_rfl)) (by kernel_rfl)) ok0)) Hz)) (GoR.sliceLit rfl (by kernel_rfl) (t:=27) (e:=47) (n:=1) (ps:=[(0,.agg (TSt.cells ((ls.getD k dS6).s)))]) (by kernel_rfl) (by kernel_rfl) (ti:=Tryz.t47) (z:=.agg (TSt.cells dSt)) (by kernel_rfl) (by kernel_rfl) (by decide) (by decide) (cs:=TSt.cells ((ls.getD k dS6).s)) (by kernel_rfl) b3 fun f7 f8 f9 g0=>?_)
      have g5:St w0 ((Sl (some ⟨f7,0,none⟩) 1 47 107 TSt.cells ([((⟨((ls.getD k dS6).s).dw,((ls.getD k dS6).s).cl,((ls.getD k dS6).s).wh,((ls.getD k dS6).s).j,((ls.getD k dS6).s).k,((ls.getD k dS6).s).n,(⟨(((ls.getD k dS6).s).op).kd,(((ls.getD k dS6).s).op).ky,(((ls.getD k dS6).s).op).va,(((ls.getD k dS6).s).op).ol,(((ls.getD k dS6).s).op).tx,(((ls.getD k dS6).s).op).am⟩:TOp),(⟨(((ls.getD k dS6).s).bd).kd,(((ls.getD k dS6).s).bd).vw,(((ls.getD k dS6).s).bd).k,(⟨((((ls.getD k dS6).s).bd).rq).cl,((((ls.getD k dS6).s).bd).rq).tm,(⟨(((((ls.getD k dS6).s).bd).rq).op).kd,(((((ls.getD k dS6).s).bd).rq).op).ky,(((((ls.getD k dS6).s).bd).rq).op).va,(((((ls.getD k dS6).s).bd).rq).op).ol,(((((ls.getD k dS6).s).bd).rq).op).tx,(((((ls.getD k dS6).s).bd).rq).op).am⟩:TOp),(((((ls.getD k dS6).s).bd).rq).tg)⟩:TRq),(((ls.getD k dS6).s).bd).qa,(((ls.getD k dS6).s).bd).qc,(((ls.getD k dS6).s).bd).ql,((((ls.getD k dS6).s).bd).dg)⟩:TBd),(⟨(((ls.getD k dS6).s).pk).fr,(((ls.getD k dS6).s).pk).tw,((((ls.getD k dS6).s).pk).kn),(((ls.getD k dS6).s).pk).ma,(((ls.getD k dS6).s).pk).mc,(((ls.getD k dS6).s).pk).ml⟩:TPk),((ls.getD k dS6).s).tm,(⟨(((ls.getD k dS6).s).re).er,(((ls.getD k dS6).s).re).vl⟩:TRe),((ls.getD k dS6).s).at_,((ls.getD k dS6).s).pa,((ls.getD k dS6).s).pc,((ls.getD k dS6).s).pl⟩:TSt):TSt)]))::(Sl sa sc 47 107 TSt.cells ys)::L) f8:=St.slOf (l:=[((⟨((ls.getD k dS6).s).dw,((ls.getD k dS6).s).cl,((ls.getD k dS6).s).wh,((ls.getD k dS6).s).j,((ls.getD k dS6).s).k,((ls.getD k dS6).s).n,(⟨(((ls.getD k dS6).s).op).kd,(((ls.getD k dS6).s).op).ky,(((ls.getD k dS6).s).op).va,(((ls.getD k dS6).s).op).ol,(((ls.getD k dS6).s).op).tx,(((ls.getD k dS6).s).op).am⟩:TOp),(⟨(((ls.getD k dS6).s).bd).kd,(((ls.getD k dS6).s).bd).vw,(((ls.getD k dS6).s).bd).k,(⟨((((ls.getD k dS6).s).bd).rq).cl,((((ls.getD k dS6).s).bd).rq).tm,(⟨(((((ls.getD k dS6).s).bd).rq).op).kd,(((((ls.getD k dS6).s).bd).rq).op).ky,(((((ls.getD k dS6).s).bd).rq).op).va,(((((ls.getD k dS6).s).bd).rq).op).ol,(((((ls.getD k dS6).s).bd).rq).op).tx,(((((ls.getD k dS6).s).bd).rq).op).am⟩:TOp),(((((ls.getD k dS6).s).bd).rq).tg)⟩:TRq),(((ls.getD k dS6).s).bd).qa,(((ls.getD k dS6).s).bd).qc,(((ls.getD k dS6).s).bd).ql,((((ls.getD k dS6).s).bd).dg)⟩:TBd),(⟨(((ls.getD k dS6).s).pk).fr,(((ls.getD k dS6).s).pk).tw,((((ls.getD k dS6).s).pk).kn),(((ls.getD k dS6).s).pk).ma,(((ls.getD k dS6).s).pk).mc,(((ls.getD k dS6).s).pk).ml⟩:TPk),((ls.getD k dS6).s).tm,(⟨(((ls.getD k dS6).s).re).er,(((ls.getD k dS6).s).re).vl⟩:TRe),((ls.getD k dS6).s).at_,((ls.getD k dS6).s).pa,((ls.getD k dS6).s).pc,((ls.getD k dS6).s).pl⟩:TSt):TSt)]) (f:=TSt.cells) f9 g0 (dStF).size (by simp only [lC,lN,maxLen];omega) (by kernel_rfl)
      refine Lo (Dz (Zap stsOK dStF dSt (g5.pl 1) (by simp only [lA,lC,lN,List.length_map] at *;omega) fun g8 g9 m1 h0=>Lo (Lud (Lm (Lt (Dz (Zaj (Hwi 1 ((k:Nat)+1) Hz) ?_)))))))
      have h2:=((h0.pl 0).pl 1)
      exact GoQ.back (k+1,some ⟨a6,a7,none⟩,ys++([((⟨((ls.getD k dS6).s).dw,((ls.getD k dS6).s).cl,((ls.getD k dS6).s).wh,((ls.getD k dS6).s).j,((ls.getD k dS6).s).k,((ls.getD k dS6).s).n,(⟨(((ls.getD k dS6).s).op).kd,(((ls.getD k dS6).s).op).ky,(((ls.getD k dS6).s).op).va,(((ls.getD k dS6).s).op).ol,(((ls.getD k dS6).s).op).tx,(((ls.getD k dS6).s).op).am⟩:TOp),(⟨(((ls.getD k dS6).s).bd).kd,(((ls.getD k dS6).s).bd).vw,(((ls.getD k dS6).s).bd).k,(⟨((((ls.getD k dS6).s).bd).rq).cl,((((ls.getD k dS6).s).bd).rq).tm,(⟨(((((ls.getD k dS6).s).bd).rq).op).kd,(((((ls.getD k dS6).s).bd).rq).op).ky,(((((ls.getD k dS6).s).bd).rq).op).va,(((((ls.getD k dS6).s).bd).rq).op).ol,(((((ls.getD k dS6).s).bd).rq).op).tx,(((((ls.getD k dS6).s).bd).rq).op).am⟩:TOp),(((((ls.getD k dS6).s).bd).rq).tg)⟩:TRq),(((ls.getD k dS6).s).bd).qa,(((ls.getD k dS6).s).bd).qc,(((ls.getD k dS6).s).bd).ql,((((ls.getD k dS6).s).bd).dg)⟩:TBd),(⟨(((ls.getD k dS6).s).pk).fr,(((ls.getD k dS6).s).pk).tw,((((ls.getD k dS6).s).pk).kn),(((ls.getD k dS6).s).pk).ma,(((ls.getD k dS6).s).pk).mc,(((ls.getD k dS6).s).pk).ml⟩:TPk),((ls.getD k dS6).s).tm,(⟨(((ls.getD k dS6).s).re).er,(((ls.getD k dS6).s).re).vl⟩:TRe),((ls.getD k dS6).s).at_,((ls.getD k dS6).s).pa,((ls.getD k dS6).s).pc,((ls.getD k dS6).s).pl⟩:TSt):TSt)]),g8,g9) [0,1,2,3,4,5,12,13,14] (by kernel_rfl) (by show ls.length-(k+1)<ls.length-k;omega) ⟨⟨by omega,by simp only [lA,lC,lN];omega,fun y hy=>(List.mem_append.1 hy).elim (hp.2.2.1 y) (fun h9=>by rw [List.mem_singleton.1 h9];exact⟨hyl k hk,(putS_pos hmy).2⟩),hw⟩,(h2.dr 1)⟩
     ·exact Zk (Zm (Zt (Zaj (Hwi 1 ((k:Nat)+1) Hz) (GoQ.back (k+1,some ⟨a6,a7,none⟩,ys,sa,sc) [0,1,2,3,4,5,12,13,14] (by kernel_rfl) (by show ls.length-(k+1)<ls.length-k;omega) ⟨⟨by omega,Nat.le_succ_of_le hp.2.1,hp.2.2.1,hw⟩,b3⟩))))
    ·exact En (Lud (Lt (LF (Lk (Lm (Lt (Dz (Zaj (Hwi 1 ((k:Nat)+1) Hz) (GoQ.back (k+1,some ⟨a6,a7,none⟩,ys,sa,sc) [0,1,2,3,4,5,12,13,14] (by kernel_rfl) (by show ls.length-(k+1)<ls.length-k;omega) ⟨⟨by omega,Nat.le_succ_of_le hp.2.1,hp.2.2.1,hw⟩,b3⟩)))))))))
   ·have hyb:=runB_bd (n:=0) fun y hy=>(hp.2.2.1 y hy).2
    have m2:=hp.2.1
    refine En (Lx (LsC (LsL (Lh (Lt (Ls (Lg [1,3] (Lw (Zc (odd_spec nz hnz b2) ?_)))))))))
    rintro m3 m4 ⟨x,rfl,h4⟩
    refine Lo (Lw (Zqa (f:=7) (args:=#[.int .i64 x,.slice sa ys.length sc]) Tryz.call7 (rrun_spec x ys (fun k hk=>by have h9:=hp.2.2.1 _ (getD_mem (d:=dSt) hk);exact⟨SOK.up 1 h9.1,by omega⟩) (by have h9:=runB_bd (n:=x) fun y hy=>(hp.2.2.1 y hy).2;omega) (fun w h=>h.rows 0 rfl (dStF).size _) h4) ?_))
    rintro m5 m6 ⟨m7,a2,rfl,c7⟩
    refine Lz (Ls (Dz ?_))
    have m8:0<(runB x (ys.map putS)).length:=Nat.succ_pos _
    obtain⟨a0,rfl⟩:=Sl.isSome (c7.at_ 0 rfl) (by omega)
    refine Zg [11] ?_
    obtain⟨a3,h5⟩:∃ n:Nat,(atz:Int) % ((runB x (ys.map putS)).length:Nat)=(n:Int)∧(n:Int)<((runB x (ys.map putS)).length:Nat):=remNat (by omega) (by omega)
    refine Zj (Hwi 2 (atz:Nat) (Hg 5 (.div (a3:Nat)) [.prop (IntKind.i64=IntKind.i64∧(((runB x (ys.map putS)).length:Nat):Int)≠0∧Int.tmod (atz:Nat) ((runB x (ys.map putS)).length:Nat)=(a3:Nat))] (okp ⟨rfl,by omega,by rw [Int.tmod_eq_emod_of_nonneg (by omega)];exact h5.1⟩ ok0) (Hx 6 (a3:Int) (((runB x (ys.map putS)).length:Nat):Int) a0 0 1 (Hg 7 (.gen [.int .u8 ((runB x (ys.map putS)).getD a3 (0:Int))]) [.cell ⟨a0,0+(a3*1),none⟩ (.int .u8 ((runB x (ys.map putS)).getD a3 (0:Int)))] (okc (RowsAt.at0 (c7.rows 0 rfl (byteF).size (0:Int)) (k:=a3) (by first|omega|(simp only [List.length_set];omega)|(simp only [List.length_set,lA,lC,lN];omega)) (j:=0) (by decide) (by kernel_rfl)) ok0) (Hx 10 (a3:Int) (((runB x (ys.map putS)).length:Nat):Int) a0 0 1 Hz))))) (GoR.storeSl rfl rfl (by kernel_rfl) (b:=a0) (off:=0+(a3*1)) (v:=.int .u8 (iXor .u8 ((runB x (ys.map putS)).getD a3 (0:Int)) by_)) (by kernel_rfl) (by kernel_rfl) (ti:=Tryz.t5) (by kernel_rfl) c7 0 (byteF).size rfl (by kernel_rfl) (by kernel_rfl) (by rw [Nat.zero_add];exact field_room (f:=byteC) (size:=1) (l:=runB x (ys.map putS)) (k:=a3) (o:=0) (n:=1) (byteF).size (by first|omega|(simp only [List.length_set];omega)|(simp only [List.length_set,lA,lC,lN];omega)) (by decide)) (List.length_set ..) (xs':=(runB x (ys.map putS)).set a3 (iXor .u8 ((runB x (ys.map putS)).getD a3 (0:Int)) by_)) (by rw [Nat.zero_add];exact splice_field (f:=byteC) (size:=1) (l:=runB x (ys.map putS)) (k:=a3) (o:=0) (byteF).size (by first|omega|(simp only [List.length_set];omega)|(simp only [List.length_set,lA,lC,lN];omega)) (0:Int) (iXor .u8 ((runB x (ys.map putS)).getD a3 (0:Int)) by_) (Nat.le_of_ble_eq_true rfl) (by kernel_rfl)) (L':=(Sl (some ⟨a0,0,none⟩) a2 5 1 byteC ((runB x (ys.map putS)).set a3 (iXor .u8 ((runB x (ys.map putS)).getD a3 (0:Int)) by_)))::(Sl sa sc 47 107 TSt.cells ys)::L) rfl fun h6 h7=>Lo (Ld (Lt (Ls (Dz ?_)))))
    have h8:=((h7.pl 0).pl 1)
    have i0:=h8.dr 1
    obtain⟨B,hB⟩:∃ B,B=(runB x (ys.map putS)).set a3 (iXor .u8 ((runB x (ys.map putS)).getD a3 (0:Int)) by_):=⟨_,rfl⟩
    have hBb:Byt B:=by rw [hB];exact byt_set (runB_byt fun y hy=>(hp.2.2.1 y hy).1.byt) (u8wrap_b _)
    have hBe:(runB x (ys.map putS)).length=B.length:=by rw [hB,List.length_set]
    have hBl:B.length≤800000:=by have h9:=runB_bd (n:=x) fun y hy=>(hp.2.2.1 y hy).2;omega
    have b9:St w0 ((Sl (some ⟨a0,0,none⟩) a2 5 1 byteC B)::L) h6:=(by rw [hB];exact i0)
    refine GoC.pick [15,0,5,12] (S':=[(15,zL a0 0 ((runB x (ys.map putS)).length) a2),(0,.slice ar rw.length cr),(5,.int .i64 kz),(12,.bool false)]) (by kernel_rfl) (GoC.slots (S':=[(15,zL a0 0 B.length a2),(0,.slice ar rw.length cr),(5,.int .i64 kz),(12,.bool false)]) (by rw [hBe]) (GoC.join (T:=(List Int)×(Option Addr)×Nat×Asn) (E:=fun gg=>[(5,.int .i64 kz),(12,.bool false),(15,.slice gg.2.1 gg.1.length gg.2.2.1)]) (F:=fun gg w=>((∀ w,St w0 ((Sl (some ⟨a0,0,none⟩) a2 5 1 byteC B)::L) w→gg.2.2.2.holds w)∧CutOK gg.2.2.2 gg.2.1 gg.1 gg.2.2.1∧gg.1.length≤800000)∧St w0 ((Sl (some ⟨a0,0,none⟩) a2 5 1 byteC B)::L) w) ?_ ?_))
    ·refine En (Lq (Dz (Zi ((rw.length:Int)>0) (fun i1=>?_) (fun i1=>?_))))
     ·exact Za (Zme [5,12,15] (rw,ar,cr,(RowQ ar rw)) ⟨⟨fun w h=>hr1 w (h.drop 1),⟨hcr,som_of (hr1 _ (b9.drop 1)) (by omega),fun w h=>h,hrb,Nat.le_trans d5 (by decide)⟩,Nat.le_trans d5 (by decide)⟩,b9⟩)
     ·exact Zk (Zme [5,12,15] (B,some ⟨a0,0,none⟩,a2,(Sl (some ⟨a0,0,none⟩) a2 5 1 byteC B)) ⟨⟨fun w h=>h.at_ 0 rfl,CutOK.new b9 (j:=0) rfl hBb (by omega),hBl⟩,b9⟩)
    rintro⟨bb,az,cz,Qz⟩ m9 ⟨hpj,d8⟩
    dsimp only at hpj d8
    refine GoQ.slots (S':=[(5,.int .i64 kz),(12,.bool false),(15,.slice az bb.length cz)]) rfl (En (Lt (Ls (Lg [1] (Lw (Zc (rsteps_spec Qz bb (fun w h=>hpj.1 w (h.drop 0)) hpj.2.1 d8) ?_))))))
    rintro n0 n1 (⟨rfl,c8,i2⟩|⟨u,i,a4,a1,rfl,a5,b4,i3⟩)
    ·refine Lz (Ls (Lg [0,2,4] (Dz (GoR.sliceLit0 rfl (by kernel_rfl) (t:=22) (e:=5) (by kernel_rfl) (by kernel_rfl) (ti:=Tryz.t5) (by kernel_rfl) i2 fun d9 i4 i5 i6=>?_))))
     have e0:St w0 ((Sl (some ⟨d9,0,none⟩) 0 5 1 byteC ([]:List Int))::(Sl (some ⟨a0,0,none⟩) a2 5 1 byteC B)::L) i4:=St.slOf (l:=([]:List Int)) (f:=byteC) i5 i6 (byteF).size (by simp only [lC,lN,maxLen];omega) (by kernel_rfl)
     refine Lo (Lw (GoR.append rfl (by kernel_rfl) bytesOK byteF (ad:=some ⟨d9,0,none⟩) (c:=0) (xs:=([]:List Int)) (ys:=bb) (adx:=az) (cx:=cz) (0:Int) (by kernel_rfl) e0 (hpj.2.1.row _ (hpj.1 _ (e0.drop 1))) hpj.2.1.som.nn (by simp only [lA,lC,lN,List.length_map] at *;omega) (by simp only [lA,lC,lN,List.length_map] at *;omega) fun e1 e2 n2 e3=>Lo (Lw (Zc (upto_spec bb kz (own_som e3 0 rfl) (by have:=hpj.2.2;omega) hpj.2.1.byt (fun w h=>h.rows 0 rfl (byteF).size _) e3) ?_))))
     rintro n3 n4 (⟨rfl,n5,i7⟩|⟨n6,n7,rfl,i8,n8,n9⟩|⟨o0,o1,o2,o3,rfl,i9,o4,o5,o6⟩)
     ·refine Lz (Ls (Lq (LT (Ls (Lg [1] (Lw (Zc1 (again_spec bb hpj.2.1.som (by have:=hpj.2.2;omega) hpj.2.1.byt c8 (fun w h=>hpj.2.1.row w (hpj.1 w (h.drop 1))) i7) fun j0 j1=>Lz (Ls (Lg [12] (Lw (Zqa (f:=5) (args:=#[]) Tryz.call5 ((show Calls Tryz.prog 5 #[] j0 (Ret fun rv w'=>rv=.bool true∧St w0 ((Sl e1 e2 5 1 byteC bb)::(Sl (some ⟨a0,0,none⟩) a2 5 1 byteC B)::L) w') from hwk [Sl e1 e2 5 1 byteC bb,Sl (some ⟨a0,0,none⟩) a2 5 1 byteC B] _ j1)) ?_)))))))))))
      rintro o8 o9 ⟨rfl,j2⟩
      exact Lz (Le (Ly (Dz (Zq1 (v:=.bool true) ⟨rfl,(j2.dr 2)⟩))))
     ·exact absurd (c8.symm.trans i8) (by nofun)
     ·exact absurd (c8.symm.trans i9) (by nofun)
    ·refine Lz (Ls (Lg [0,2,4] (Dz (GoR.sliceLit0 rfl (by kernel_rfl) (t:=22) (e:=5) (by kernel_rfl) (by kernel_rfl) (ti:=Tryz.t5) (by kernel_rfl) i3 fun e4 j4 j5 j6=>?_))))
     have e5:St w0 ((Sl (some ⟨e4,0,none⟩) 0 5 1 byteC ([]:List Int))::(Sl a4 a1 47 107 TSt.cells i)::(QX i)::(Sl (some ⟨a0,0,none⟩) a2 5 1 byteC B)::L) j4:=St.slOf (l:=([]:List Int)) (f:=byteC) j5 j6 (byteF).size (by simp only [lC,lN,maxLen];omega) (by kernel_rfl)
     refine Lo (Lw (GoR.append rfl (by kernel_rfl) bytesOK byteF (ad:=some ⟨e4,0,none⟩) (c:=0) (xs:=([]:List Int)) (ys:=bb) (adx:=az) (cx:=cz) (0:Int) (by kernel_rfl) e5 (hpj.2.1.row _ (hpj.1 _ (e5.drop 3))) hpj.2.1.som.nn (by simp only [lA,lC,lN,List.length_map] at *;omega) (by simp only [lA,lC,lN,List.length_map] at *;omega) fun b0 b1 p0 e6=>Lo (Lw (Zc (upto_spec bb kz (own_som e6 0 rfl) (by have:=hpj.2.2;omega) hpj.2.1.byt (fun w h=>h.rows 0 rfl (byteF).size _) e6) ?_))))
     rintro p1 p2 (⟨rfl,j7,p3⟩|⟨p4,p5,rfl,c0,c1,e7⟩|⟨c9,d0,a8,a9,rfl,c2,p6,c3,e8⟩)
     ·exact absurd (a5.symm.trans j7) (by nofun)
     ·refine Lz (Ls (Lq (LF (Lk (Lt (Ls (Ls (Dz (GoC.join (T:=Unit) (E:=fun _=>[(124,.bool ((decide ((kz:Int)<0)) || (decide ((kz:Int)>(i.length:Nat))))),(20,.int .i64 1),(19,.slice none 0 0),(17,.slice a4 i.length a1),(16,.int .i64 u),(5,.int .i64 kz),(12,.bool false)]) (F:=fun _ w=>St w0 ((Sl b0 b1 5 1 byteC bb)::(Sl a4 a1 47 107 TSt.cells i)::(QX i)::(Sl (some ⟨a0,0,none⟩) a2 5 1 byteC B)::L) w) ?_ ?_)))))))))
      ·refine Zg [] (Zqk [(0,.gen []),(1,.gen []),(2,.gen [])] [] [(119,.bool (decide ((kz:Int)<0))),(20,.int .i64 1),(19,.slice none 0 0),(17,.slice a4 i.length a1),(16,.int .i64 u),(5,.int .i64 kz),(12,.bool false)] ak0 (Zsq 119 (decide ((kz:Int)<0)) (fun b5=>?_) (fun b5=>?_)))
       ·obtain⟨rfl,rfl⟩:=Prod.mk.inj (Option.some.inj (a5.symm.trans c0))
        rw [List.length_map] at c1
        exact En (Lud (Dz (Zmb [124,20,19,17,16,5,12] () true (by first|rfl|simp [Hb,h1,b5]) e7)))
       ·obtain⟨rfl,rfl⟩:=Prod.mk.inj (Option.some.inj (a5.symm.trans c0))
        rw [List.length_map] at c1
        exact En (Lud (Dz (Zmb [124,20,19,17,16,5,12] () (decide ((kz:Int)>(i.length:Nat))) (by first|rfl|simp [Hb,h1,b5]) e7)))
      intro _ j9 k0
      refine Zt (Zqc (t:=(decide ((kz:Int)<0)) || (decide ((kz:Int)>(i.length:Nat)))) (fun c4=>?_) (fun c4=>?_))
      ·obtain⟨rfl,rfl⟩:=Prod.mk.inj (Option.some.inj (a5.symm.trans c0))
       rw [List.length_map] at c1
       refine En (Ls (Lg [3] (Lw (Zqa (f:=5) (args:=#[]) Tryz.call5 ((show Calls Tryz.prog 5 #[] j9 (Ret fun rv w'=>rv=.bool true∧St w0 ((Sl b0 b1 5 1 byteC bb)::(Sl a4 a1 47 107 TSt.cells i)::(QX i)::(Sl (some ⟨a0,0,none⟩) a2 5 1 byteC B)::L) w') from hwk [Sl b0 b1 5 1 byteC bb,Sl a4 a1 47 107 TSt.cells i,QX i,Sl (some ⟨a0,0,none⟩) a2 5 1 byteC B] _ k0)) ?_))))
       rintro p7 p8 ⟨rfl,k1⟩
       exact Lz (Le (Ly (Dz (Zq1 (v:=.bool true) ⟨rfl,(k1.dr 4)⟩))))
      ·have k3:=(Bool.or_eq_false_iff.1 c4).1
       have k4:(decide ((kz:Int)>(i.length:Nat)))=false:=(Bool.or_eq_false_iff.1 c4).2
       obtain⟨rfl,rfl⟩:=Prod.mk.inj (Option.some.inj (a5.symm.trans c0))
       rw [List.length_map] at c1
       exfalso;simp only [Bool.or_eq_false_iff,decide_eq_false_iff_not] at c4;omega
     ·refine Lz (Ls (Lq (LF (Lk (Lt (Ls (Ls (Dz (GoC.join (T:=Unit) (E:=fun _=>[(124,.bool ((decide ((kz:Int)<0)) || (decide ((kz:Int)>(i.length:Nat))))),(20,.int .i64 0),(19,.slice a8 ((runB c9 (d0.take kz.toNat)).length) a9),(17,.slice a4 i.length a1),(16,.int .i64 u),(5,.int .i64 kz),(12,.bool false)]) (F:=fun _ w=>St w0 ((Sl a8 a9 5 1 byteC (runB c9 (d0.take kz.toNat)))::(Sl b0 b1 5 1 byteC bb)::(Sl a4 a1 47 107 TSt.cells i)::(QX i)::(Sl (some ⟨a0,0,none⟩) a2 5 1 byteC B)::L) w) ?_ ?_)))))))))
      ·refine Zg [] (Zqk [(0,.gen []),(1,.gen []),(2,.gen [])] [] [(119,.bool (decide ((kz:Int)<0))),(20,.int .i64 0),(19,.slice a8 ((runB c9 (d0.take kz.toNat)).length) a9),(17,.slice a4 i.length a1),(16,.int .i64 u),(5,.int .i64 kz),(12,.bool false)] ak0 (Zsq 119 (decide ((kz:Int)<0)) (fun b6=>?_) (fun b6=>?_)))
       ·obtain⟨rfl,rfl⟩:=Prod.mk.inj (Option.some.inj (a5.symm.trans c2))
        rw [List.length_map] at c3
        exact En (Lud (Dz (Zmb [124,20,19,17,16,5,12] () true (by first|rfl|simp [Hb,h1,b6]) e8)))
       ·obtain⟨rfl,rfl⟩:=Prod.mk.inj (Option.some.inj (a5.symm.trans c2))
        rw [List.length_map] at c3
        exact En (Lud (Dz (Zmb [124,20,19,17,16,5,12] () (decide ((kz:Int)>(i.length:Nat))) (by first|rfl|simp [Hb,h1,b6]) e8)))
      intro _ k6 k7
      refine Zt (Zqc (t:=(decide ((kz:Int)<0)) || (decide ((kz:Int)>(i.length:Nat)))) (fun c5=>?_) (fun c5=>?_))
      ·obtain⟨rfl,rfl⟩:=Prod.mk.inj (Option.some.inj (a5.symm.trans c2))
       rw [List.length_map] at c3
       exfalso;simp only [Bool.or_eq_true,decide_eq_true_eq] at c5;omega
      ·have k8:=(Bool.or_eq_false_iff.1 c5).1
       have k9:(decide ((kz:Int)>(i.length:Nat)))=false:=(Bool.or_eq_false_iff.1 c5).2
       obtain⟨rfl,rfl⟩:=Prod.mk.inj (Option.some.inj (a5.symm.trans c2))
       rw [List.length_map] at c3
       obtain⟨kn,rfl⟩:∃ m:Nat,kz=m:=⟨kz.toNat,by omega⟩
       have l0:St w0 ((Sl a8 a9 5 1 byteC (runB u ((i.take kn).map putS)))::(Sl b0 b1 5 1 byteC bb)::(Sl a4 a1 47 107 TSt.cells i)::(QX i)::(Sl (some ⟨a0,0,none⟩) a2 5 1 byteC B)::L) k6:=(by rw [List.map_take];exact k7)
       refine GoC.slots (S':=[(124,.bool ((decide ((kn:Int)<0)) || (decide ((kn:Int)>(i.length:Nat))))),(20,.int .i64 0),(19,.slice a8 ((runB u ((i.take kn).map putS)).length) a9),(17,.slice a4 i.length a1),(16,.int .i64 u),(5,.int .i64 (kn:Nat)),(12,.bool false)]) (by rw [List.map_take];rfl) (Zk (Zt (Zs (ZD (rds [0,1,2,3,4,5,6,7,8] (.ef 9 (rds [10,11,12,13] (.ef 14 (rds [15,16] .done))))) l0 fun q3 d1 q4=>Zqk [(0,.gen []),(1,.gen []),(2,.gen []),(3,.gen [])] [] [(133,.slice a8 ((runB u ((i.take kn).map putS)).length) a9),(132,.bool true),(17,.slice a4 i.length a1),(16,.int .i64 u),(5,.int .i64 (kn:Nat)),(12,.bool false)] ak0 (GoR.bytesStrG rfl (by kernel_rfl) (src:=22) (dst:=9) (e:=5) (ad:=a8) (n:=((runB u ((i.take kn).map putS)).length)) (cap:=a9) (f:=byteC) rfl (runB u ((i.take kn).map putS)) rfl (by kernel_rfl) (by kernel_rfl) (by kernel_rfl) (by kernel_rfl) (runB_byt fun y hy=>putS_byt (b4 y (List.mem_of_mem_take hy)).1 (b4 y (List.mem_of_mem_take hy)).2) (d1.rows 0 rfl (byteF).size (0:Int)) ?_)))))
       have q5:=Sl.cap (d1.at_ 2 rfl)
       refine Zj (Hg 8 (.as_ (.slice a4 (((i).take kn).length) a1) (.sub 0 kn)) [.prop ((kn:Int)=(kn:Int)),.prop (((none:Option Operand)=none→(0:Nat)=0)∧(some (Operand.tmp 137)=none→(kn:Nat)=i.length)∧(0:Nat)≤kn∧(kn:Nat)≤a1),.prop (Value.slice (if a1=0 then a4 else (a4:Option Addr).map (fun a=>a.add (0*107))) (kn-0) (a1-0)=Value.slice a4 (((i).take kn).length) a1)] (okp (by omega) (okp ⟨(by first|(intro _;rfl)|(intro hc;cases hc)),(by first|(intro _;rfl)|(intro hc;cases hc)),(by omega),(by omega)⟩ (okp (subSl0 (by simp only [List.length_take,List.length_drop]<;>omega)) ok0))) Hz) (Zqa (f:=7) (args:=#[.int .i64 u,.slice a4 (((i).take kn).length) a1]) Tryz.call7 (rrun_spec u ((i).take kn) (steps_ok (fun w h=>h.at_ 3 rfl) b4 (runP_some a5).1) (Nat.le_trans runB_le (Nat.le_trans (runP_some a5).2 hpj.2.2)) (fun w h=>RowsAt.takeL (h.rows 2 rfl (dStF).size _) _ (by omega)) d1) ?_)
       rintro q6 l1 ⟨d2,d3,rfl,d4⟩
       refine⟨(opl (n:=[.holds (fun w=>RowsAt w a8 (runB u ((i.take kn).map putS)).length 1 (fun k=>byteC ((runB u ((i.take kn).map putS)).getD k 0)))]) (by kernel_rfl) (okh (d4.rows 1 rfl (byteF).size (0:Int)) ok0)),(GoR.bytesStrG rfl (by kernel_rfl) (src:=22) (dst:=9) (e:=5) (ad:=d2) (n:=((runB u (((i).take kn).map putS)).length)) (cap:=d3) (f:=byteC) rfl (runB u (((i).take kn).map putS)) rfl (by kernel_rfl) (by kernel_rfl) (by kernel_rfl) (by kernel_rfl) (runB_byt fun y hy=>putS_byt (b4 y (List.mem_of_mem_take hy)).1 (b4 y (List.mem_of_mem_take hy)).2) (d4.rows 0 rfl (byteF).size (0:Int)) (Zj (Hg 11 (.as_ (.bool (decide ((strOf (runB u ((i.take kn).map putS)))=(strOf (runB u (((i).take kn).map putS)))))) (.gen [])) [.prop (Value.bool ((strOf (runB u ((i.take kn).map putS))).toList == (strOf (runB u (((i).take kn).map putS))).toList)=Value.bool (decide ((strOf (runB u ((i.take kn).map putS)))=(strOf (runB u (((i).take kn).map putS))))))] (okp (seq _ _) ok0) Hz) (Zsq 143 (decide ((strOf (runB u ((i.take kn).map putS)))=(strOf (runB u (((i).take kn).map putS))))) (fun c6=>?_) (fun c6=>?_))))⟩
       ·refine Zqa (f:=5) (args:=#[]) Tryz.call5 ((show Calls Tryz.prog 5 #[] l1 (Ret fun rv w'=>rv=.bool true∧St w0 ((Sl d2 d3 5 1 byteC (runB u (((i).take kn).map putS)))::(Sl a8 a9 5 1 byteC (runB u ((i.take kn).map putS)))::(Sl b0 b1 5 1 byteC bb)::(Sl a4 a1 47 107 TSt.cells i)::(QX i)::(Sl (some ⟨a0,0,none⟩) a2 5 1 byteC B)::L) w') from hwk [Sl d2 d3 5 1 byteC (runB u (((i).take kn).map putS)),Sl a8 a9 5 1 byteC (runB u ((i.take kn).map putS)),Sl b0 b1 5 1 byteC bb,Sl a4 a1 47 107 TSt.cells i,QX i,Sl (some ⟨a0,0,none⟩) a2 5 1 byteC B] _ d4)) ?_
        rintro q7 q8 ⟨rfl,l3⟩
        exact Lz (Le (Dz (Zq1 (v:=.bool true) ⟨rfl,(l3.dr 6)⟩)))
       ·exact absurd rfl (of_decide_eq_false c6)
end
end Go.Proofs.YtlomlmbbiopaaaaGreatDoor
namespace Go.Proofs.YtlomlmbbiopaaaaGreatDoor
open Go.RowKit Go.Sx Go.Deep
set_option linter.unusedVariables false
set_option linter.unusedSimpArgs false
set_option linter.unnecessarySimpa false
set_option maxRecDepth 100000
variable {ad : Option Addr}
theorem gfits_split {T:TypeId→Value→Prop}:∀ {ks ks':List GK}{vs:List Value},gfits T (ks++ks') vs→∃ a b,vs=a++b∧gfits T ks a∧gfits T ks' b
 | [],_,vs,h=>⟨[],vs,rfl,trivial,h⟩
 | k::ks,ks',vs,h=>by
  obtain⟨v,r,rfl,h1,h2⟩:=gfits_cons (show gfits T (k::(ks++ks')) vs from h)
  obtain⟨a,b,rfl,h3,h4⟩:=gfits_split h2
  exact⟨v::a,b,rfl,⟨h1,h3⟩,h4⟩
theorem sok_of {W:World}{s:TSt}(hi:StIn W s):SOK W [Base W] s :=
 ⟨hi.ok,fun k hk=>⟨(hi.ms _ (getD_mem (d:=dMs) hk)).1,fun w h=>(hi.ms _ (getD_mem (d:=dMs) hk)).2.base (fun k _=>dPrF.size _) h 0 rfl⟩,fun w h=>hi.q.base (fun k _=>dPrF.size _) h 0 rfl,fun w h=>hi.m.base (fun k _=>dMsF.size _) h 0 rfl,fun w h=>hi.p.base (fun k _=>rfl) h 0 rfl⟩
section
variable {H : Type} {enc : TypeId × Value → H} {w : World} {base : Nat} {spare : Nat → Bool} {held : Bool}
theorem steps_in {n c:Nat}{d:DataW H}{ps:List MemPlace}(h:DataW.Trod enc Tryz.prog w base spare held 23 (.slice ad n c) d ps):∃ l:List TS6,l.length=n∧(∀ y∈l,StIn w y.s)∧RowsAt w ad l.length 108 (fun k=>TS6.cells (l.getD k dS6)):=by
 obtain⟨-,cell,hr,hc⟩:=gopen_flat (m:=8) (ks:=stK++[.bool]) Tryz.underlying23 (by kernel_rfl) (by kernel_rfl) (by decide) h
 obtain⟨l,hl,hp,hw⟩:=list_of_cells dS6 (f:=TS6.cells) (fun y=>StIn w y.s) hr (fun k hk=>by
  have g:=hc k hk
  generalize cell k=cs at g ⊢
  obtain⟨vs⟩:=cs
  obtain⟨a,b,rfl,g1,g2⟩:=gfits_split g
  obtain⟨s,hs,hi⟩:=TSt.of (cs:=⟨a⟩) prsT_in mssT_in bysT_in g1
  obtain rfl:a=(TSt.cells s).toList:=congrArg Array.toList hs
  obtain⟨_,r,rfl,⟨q,rfl⟩,g3⟩:=gfits_cons g2
  obtain rfl:=gfits_nil g3
  exact⟨⟨s,q⟩,hi,rfl⟩)
 exact⟨l,hl,hp,hw⟩
theorem bytes_in {n c:Nat}{d:DataW H}{ps:List MemPlace}(h:DataW.Trod enc Tryz.prog w base spare held 22 (.slice ad n c) d ps):∃ l:List Int,l.length=n∧l.length≤c∧Byt l∧RowsAt w ad l.length 1 (fun k=>byteC (l.getD k (0:Int))):=by
 obtain⟨hcap,-,-,-,-⟩:=open_flat_w (m:=8) (ks:=[.int .u8]) Tryz.underlying22 (by kernel_rfl) (by kernel_rfl) (by decide) h
 obtain⟨l,rfl,a,-,b⟩:=bysT_in (w:=w) _ _ _ ⟨d,ps,h⟩
 exact⟨l,rfl,hcap,a,b⟩
end
theorem raw_in (W:World) (hwk:∀ (M:List Asn) (w:World),St W (M++[Base W]) w→Calls Tryz.prog 5 #[] w (Ret fun rv w'=>rv=.bool true∧St W (M++[Base W]) w')){ar al:Option Addr}{cr cl:Nat}(rw:List Int) (hcr:rw.length≤cr) (hrb:Byt rw) (hr1:RowsAt W ar rw.length 1 (fun k=>byteC (rw.getD k (0:Int)))) (ls:List TS6) (hi:∀ y∈ls,StIn W y.s) (hr2:RowsAt W al ls.length 108 (fun k=>TS6.cells (ls.getD k dS6))){n at_ by_ k:Int}(hn:0≤n∧n≤255) (ha:0≤at_∧at_≤65535) :
 Calls Tryz.prog 3 #[.slice ar rw.length cr,.int .u8 n,.slice al ls.length cl,.int .u16 at_,.int .u8 by_,.int .i64 k] W (Ret fun rv w'=>rv=.bool true∧Below W.heap.size W w'):=by
 obtain⟨nz,rfl⟩:=Int.eq_ofNat_of_zero_le hn.1
 obtain⟨az,rfl⟩:=Int.eq_ofNat_of_zero_le ha.1
 refine Calls.ret (raw_spec (w0:=W) (L:=[Base W]) rw nz ls az by_ k hcr hrb (by omega) (by omega) (fun k hk=>sok_of (hi _ (getD_mem hk))) hwk (fun w h=>hr1.base (fun k _=>rfl) h 0 rfl) (fun w h=>hr2.base (fun k _=>dS6F.size _) h 0 rfl) (St.start W)) ?_
 rintro rv w' ⟨rfl,h⟩
 exact⟨rfl,h.below 0 rfl⟩
end Go.Proofs.YtlomlmbbiopaaaaGreatDoor
