/-
  Several texts in one: TcA, TcB, TcC, TbQ, TbR, TcD, TbT, TcE, TbW.
-/
import Derived.Test.YtlomlmbbiopaaaaGreatDoorSxT
import Derived.Test.YtlomlmbbiopaaaaGreatDoorGaA
import Derived.Test.YtlomlmbbiopaaaaGreatDoorGaB
namespace Go.Proofs.YtlomlmbbiopaaaaGreatDoor
open Go.RowKit Go.Sx
set_option linter.unusedVariables false
set_option linter.unusedSimpArgs false
set_option linter.unnecessarySimpa false
set_option maxRecDepth 100000
section
variable {w0 w : World} {L : List Asn} {ad : Option Addr} {c : Nat}
theorem rwd_succ (n:Int) (x:Nat) (h:x<8):wdn n x++[IntKind.u8.wrap (iShr .u64 n (IntKind.u64.wrap (8*(7-(x:Nat)))))]=wdn n (x+1):=by
 rw [wdn_succ,show IntKind.u64.wrap (8*(7-(x:Nat)))=8*(7-(x:Nat)) from u64_id (by omega) (by omega)]
 rfl
theorem rput8_spec (l) (n) (hl:l.length≤900000) (hn:0≤n∧n≤18446744073709551615) (hs:St w0 ((Sl ad c 5 1 byteC l)::L) w):Cs Tryz.prog 69 #[.slice ad l.length c,.int .u64 n,.int .i64 8] w fun rv w'=>∃ ao co,rv=.slice ao ((l++wd n).length) co∧St w0 ((Sl ao co 5 1 byteC (l++wd n))::L) w':=by
 refine Zen Tryz.func69 Tryz.ntmps69 (En (Lq (Ls (Lg [0,2] (Dz (GoR.sliceLit0 rfl (by kernel_rfl) (t:=22) (e:=5) (by kernel_rfl) (by kernel_rfl) (ti:=Tryz.t5) (by kernel_rfl) hs fun d i o u=>?_))))))
 have a:St w0 ((Sl (some ⟨d,0,none⟩) 0 5 1 byteC ([]:List Int))::(Sl ad c 5 1 byteC l)::L) i:=St.slOf (l:=([]:List Int)) (f:=byteC) o u (byteF).size (by simp only [lC,lN,maxLen];omega) (by kernel_rfl)
 refine Lo (Lw (GoR.append rfl (by kernel_rfl) bytesOK byteF (ad:=some ⟨d,0,none⟩) (c:=0) (xs:=([]:List Int)) (ys:=l) (adx:=ad) (cx:=c) (0:Int) (by kernel_rfl) a (a.rows 1 rfl (byteF).size (0:Int)) (a.slNone 1 rfl) (by first|(simp only [lN];omega)|(rw [hp.2.2,lA,wdn_length];simp only [lC,lN];omega)) (by first|(simp only [lN];omega)|(rw [hp.2.2,lA,wdn_length];simp only [lC,lN];omega)) fun a0 c9 w6 a1=>Lz (Ls (Lq (Lb (Dz ?_))))))
 have a2:=((a1.pl 0).pl 1)
 refine GoC.loop (T:=Nat×Int×(List Int)×(Option Addr)×Nat) (fun gg=>[(1,.int .u64 n),(6,.slice none 0 0),(7,.slice gg.2.2.2.1 gg.2.2.1.length gg.2.2.2.2),(8,.int .i64 gg.2.1)]) (fun gg w=>(gg.1≤8∧gg.2.1=7-(gg.1:Nat)∧gg.2.2.1=l++wdn n gg.1)∧St w0 ((Sl gg.2.2.2.1 gg.2.2.2.2 5 1 byteC gg.2.2.1)::L) w) (fun gg=>8-gg.1) (0,7,l,a0,c9) [1,6,7,8] (by kernel_rfl) ⟨⟨by first|omega|(simp only;omega),by first|omega|(simp only;omega),by simp [wdn]⟩,(a2.dr 1)⟩ ?_
 rintro⟨x,z,q,ad,c⟩ b3 ⟨hp,b⟩
 dsimp only at hp b
 refine En (Ls (Lq (Dz (Zi ((z:Int) ≥ 0) (fun a4=>?_) (fun a4=>?_)))))
 ·refine Zk (Zt (Zs (Zb (Zgj [7,8] (Hwi 3 (8*z) (Hg 5 (.shift (iShr .u64 n (IntKind.u64.wrap (8*z)))) [.prop ((0:Int)≤IntKind.u64.wrap (8*z)∧Int.fdiv n (2 ^ (min (Int.toNat (IntKind.u64.wrap (8*z))) (IntKind.bits .u64)))=iShr .u64 n (IntKind.u64.wrap (8*z)))] (okp ⟨(by first|omega|exact uwrap_nn rfl _),rfl⟩ ok0) Hz)) (Zll bytesOK byteF [(IntKind.u8.wrap (iShr .u64 n (IntKind.u64.wrap (8*z))):Int)] b fun b4 b5 a5=>Lo (Dz (Zap bytesOK byteF (0:Int) (a5.pl 1) (by first|(simp only [lN];omega)|(rw [hp.2.2,lA,wdn_length];simp only [lC,lN];omega)) fun a7 a8 b6 a9=>Lo (Lud (Lm (Lt (Dz (Zaj (Hwi 1 (z-1) Hz) ?_))))))))))))
  have b0:=((a9.pl 0).pl 1)
  exact GoQ.back (x+1,z-1,q++([(IntKind.u8.wrap (iShr .u64 n (IntKind.u64.wrap (8*z))):Int)]),a7,a8) [1,6,7,8] (by kernel_rfl) (by show 8-(x+1)<8-x;omega) ⟨(by refine⟨by first|omega|(simp only;omega),by first|omega|(simp only;omega),?_⟩;rw [hp.2.2,List.append_assoc,hp.2.1];exact congrArg (l++·) (rwd_succ n x (by omega))),(b0.dr 1)⟩
 ·refine En (Lx (LsC (LsL (Lh (Lt (Lq (Le (Dz (Zq1 (v:=.slice ad q.length c) ?_)))))))))
  have hx:x=8:=by omega
  have hq:q=l++wd n:=by rw [hp.2.2,hx];rfl
  subst hq
  exact⟨ad,c,rfl,b⟩
theorem rhf_app {l:List Int}{n:Int}(h:0≤n∧n<65536):(l++([(IntKind.u8.wrap (iShr .u64 n 8):Int)]))++([(IntKind.u8.wrap (iShr .u64 n 0):Int)])=l++hf n:=by
 obtain⟨m,rfl⟩:∃ m:Nat,n=m:=⟨n.toNat,by omega⟩
 have a:∀ k:Nat,k≤16→iShr .u64 (m:Int) (k:Nat)=iShr .u16 (m:Int) (k:Nat):=fun k hk=>by
  show(m:Int).fdiv (2 ^ (min (Int.toNat (k:Int)) 64))=(m:Int).fdiv (2 ^ (min (Int.toNat (k:Int)) 16))
  rw [Int.toNat_natCast,Nat.min_eq_left (by omega),Nat.min_eq_left (by omega)]
 have b:=a 8 (by omega)
 have d:=a 0 (by omega)
 simp only [hf,List.append_assoc,List.cons_append,List.nil_append]
 rw [show iShr .u64 (m:Int) 8=iShr .u16 (m:Int) 8 from b,show iShr .u64 (m:Int) 0=iShr .u16 (m:Int) 0 from d]
theorem rput2_spec (l) (n) (hl:l.length≤900000) (hn:0≤n∧n<65536) (hs:St w0 ((Sl ad c 5 1 byteC l)::L) w):Cs Tryz.prog 69 #[.slice ad l.length c,.int .u64 n,.int .i64 2] w fun rv w'=>∃ ao co,rv=.slice ao ((l++hf n).length) co∧St w0 ((Sl ao co 5 1 byteC (l++hf n))::L) w':=by
 refine Zen Tryz.func69 Tryz.ntmps69 (En (Lq (Ls (Lg [0,2] (Dz (GoR.sliceLit0 rfl (by kernel_rfl) (t:=22) (e:=5) (by kernel_rfl) (by kernel_rfl) (ti:=Tryz.t5) (by kernel_rfl) hs fun b o q u=>?_))))))
 have a:St w0 ((Sl (some ⟨b,0,none⟩) 0 5 1 byteC ([]:List Int))::(Sl ad c 5 1 byteC l)::L) o:=St.slOf (l:=([]:List Int)) (f:=byteC) q u (byteF).size (by simp only [lC,lN,maxLen];omega) (by kernel_rfl)
 refine Lo (Lw (GoR.append rfl (by kernel_rfl) bytesOK byteF (ad:=some ⟨b,0,none⟩) (c:=0) (xs:=([]:List Int)) (ys:=l) (adx:=ad) (cx:=c) (0:Int) (by kernel_rfl) a (a.rows 1 rfl (byteF).size (0:Int)) (a.slNone 1 rfl) (by first|omega|(simp only [lA,lC,lN,wd_length,hf_length,tx_length,strB_length] at *;omega)) (by first|omega|(simp only [lA,lC,lN,wd_length,hf_length,tx_length,strB_length] at *;omega)) fun a7 c9 w6 x=>Lz (Ls (Lq (Lb (Dz (GoC.unroll 3 (En (Ls (Lq (LT (Lk (Lt (Ls (Lb (Dz (Zgj [7,8] (Hg 5 (.shift (iShr .u64 n 8)) [.prop ((0:Int)≤8∧Int.fdiv n (2 ^ (min (Int.toNat 8) (IntKind.bits .u64)))=iShr .u64 n 8)] (okp ⟨(by first|omega|exact uwrap_nn rfl _),rfl⟩ ok0) Hz) (Zll bytesOK byteF [(IntKind.u8.wrap (iShr .u64 n 8):Int)] x fun a8 a9 z=>Lo (Dz (Zap bytesOK byteF (0:Int) (z.pl 1) (by first|omega|(simp only [lA,lC,lN,wd_length,hf_length,tx_length,strB_length] at *;omega)) fun b0 b2 b3 a1=>Lo (Lud (Lm (Lt (La (Dz (GoQ.again (En (Ls (Lq (LT (Lk (Lt (Ls (Lb (Dz (Zgj [7,8] (Hg 5 (.shift (iShr .u64 n 0)) [.prop ((0:Int)≤0∧Int.fdiv n (2 ^ (min (Int.toNat 0) (IntKind.bits .u64)))=iShr .u64 n 0)] (okp ⟨(by first|omega|exact uwrap_nn rfl _),rfl⟩ ok0) Hz) (Zll bytesOK byteF [(IntKind.u8.wrap (iShr .u64 n 0):Int)] a1 fun b4 b5 a2=>Lo (Dz (Zap bytesOK byteF (0:Int) (a2.pl 1) (by first|omega|(simp only [lA,lC,lN,wd_length,hf_length,tx_length,strB_length] at *;omega)) fun d i b6 a4=>Lo (Lud (Lm (Lt (La (Dz (GoQ.again (En (Ls (Lq (LF (Lx (LsC (LsL (Lh (Lt (Lq (Le (Dz (Zq1 (v:=.slice d (((l++([(IntKind.u8.wrap (iShr .u64 n 8):Int)]))++([(IntKind.u8.wrap (iShr .u64 n 0):Int)])).length) i) ?_))))))))))))))))))))))))))))))))))))))))))))))))))))))))))
 have a5:=((((a4.pl 0).pl 3).pl 3).pl 3)
 exact⟨d,i,by rw [rhf_app hn],by rw [← rhf_app hn];exact(a5.dr 3)⟩
theorem rword_spec (l) (n) (hl:l.length≤900000) (hn:0≤n∧n≤18446744073709551615) (hs:St w0 ((Sl ad c 5 1 byteC l)::L) w):Cs Tryz.prog 37 #[.slice ad l.length c,.int .u64 n] w fun rv w'=>∃ ao co,rv=.slice ao ((l++wd n).length) co∧St w0 ((Sl ao co 5 1 byteC (l++wd n))::L) w':=by
 refine Zen Tryz.func37 Tryz.ntmps37 (En (Lq (Ls (Lg [2] (Lw (Zc (rput8_spec l n (by first|omega|(simp only [lA,lC,lN,wd_length,hf_length] at *;omega)) (by first|assumption|omega) hs) ?_))))))
 rintro e f ⟨a,b,rfl,d⟩
 exact Lz (Le (Dz (Zq1 (v:=.slice a ((l++wd n).length) b) ⟨a,b,rfl,d⟩)))
theorem rhalf_spec (l) (n) (hl:l.length≤900000) (hn:0≤n∧n<65536) (hs:St w0 ((Sl ad c 5 1 byteC l)::L) w):Cs Tryz.prog 36 #[.slice ad l.length c,.int .u16 n] w fun rv w'=>∃ ao co,rv=.slice ao ((l++hf n).length) co∧St w0 ((Sl ao co 5 1 byteC (l++hf n))::L) w':=by
 refine Zen Tryz.func36 Tryz.ntmps36 (En (Lq (Ls (Dz (Zgj [3] (Hwu 2 n Hz) (Zc (rput2_spec l n (by first|omega|(simp only [lA,lC,lN,wd_length,hf_length] at *;omega)) (by first|assumption|omega) hs) ?_))))))
 rintro e f ⟨a,b,rfl,d⟩
 exact Lz (Le (Dz (Zq1 (v:=.slice a ((l++hf n).length) b) ⟨a,b,rfl,d⟩)))
theorem rtext_spec (l) (s) (hl:l.length≤800000) (hsz:s.size<65536) (hs:St w0 ((Sl ad c 5 1 byteC l)::L) w):Cs Tryz.prog 38 #[.slice ad l.length c,.string s] w fun rv w'=>∃ ao co,rv=.tuple #[.slice ao ((l++tx s).length) co,.int .i64 0]∧St w0 ((Sl ao co 5 1 byteC (l++tx s))::L) w':=by
 refine Zen Tryz.func38 Tryz.ntmps38 (En (Lq (Ls (Lq (Dz (Zi ((s.size:Int)>65535) (fun d=>?_) (fun d=>?_)))))))
 ·exfalso;omega
 ·refine Zk (Zt (Zs (Zgj [4,6] (Hg 3 (.as_ (.int .u16 (s.size:Nat)) (.gen [])) [.prop (Value.int .u16 (IntKind.u16.wrap (s.size:Nat))=Value.int .u16 (s.size:Nat))] (okp (u16ok (by omega) (by omega)) ok0) Hz) (Zc (rhalf_spec l (s.size:Nat) (by omega) (by omega) hs) ?_))))
  rintro x z ⟨e,i,rfl,o⟩
  exact Lo (Lw (GoR.appendStr rfl (by kernel_rfl) bytesOK (u:=9) (by kernel_rfl) (f:=byteC) rfl (ad:=e) (c:=i) (xs:=l++hf (s.size:Nat)) (s:=s) (by kernel_rfl) o (by simp only [lA,hf_length];omega) fun a b w7 q=>Lz (Le (Dz (Zq2 (v:=.slice a (((l++hf (s.size:Nat))++strB s).length) b) (v':=.int .i64 0) ⟨a,b,by rw [(show(l++hf (s.size:Nat))++strB s=l++tx s from List.append_assoc ..)],by rw [← (show(l++hf (s.size:Nat))++strB s=l++tx s from List.append_assoc ..)];exact q⟩)))))
end
section
variable {w0 w : World} {L : List Asn} {c : Nat} {az : Option Addr} {cz : Nat}
theorem number_spec (Q) (r) (sp) (n) (hQ:∀ w,St w0 L w→Q.holds w) (hq:CutOK Q az r cz) (hs:St w0 ((Cel c #[.slice az r.length cz,.bool sp] 85)::L) w):Cs Tryz.prog 40 #[zP c 0,.int .i64 (n:Nat)] w fun rv w'=>∃ vv2 rr2 sp2 az2 cz2,rv=.int .u64 vv2∧numP n (r,sp)=(vv2,(rr2,sp2))∧CutOK Q az2 rr2 cz2∧St w0 ((Cel c #[.slice az2 rr2.length cz2,.bool sp2] 85)::L) w':=by
 refine Zen Tryz.func40 Tryz.ntmps40 (Zs ?_)
 have hrl:=hq.len
 have hcap:=hq.cap
 refine Za (Zt (Zs (Zs (GoC.join (T:=Unit) (E:=fun _=>[(19,.bool (sp || (decide ((r.length:Int)<(n:Nat))))),(4,.int .u64 0),(0,zP c 0),(1,.int .i64 (n:Nat))]) (F:=fun _ w=>St w0 ((Cel c #[.slice az r.length cz,.bool sp] 85)::L) w) ?_ ?_))))
 ·refine Zg [] (Zpj 0 5 (Hl 3 0 1 hs Hz) (Zsq 11 sp (fun e=>?_) (fun e=>?_)))
  ·exact En (Lud (Dz (Zmb [19,4,0,1] () true (by first|rfl|simp [Hb,e]) hs)))
  ·exact Zjd (Hl 8 0 0 hs Hz) (Zmb [19,4,0,1] () (decide ((r.length:Int)<(n:Nat))) (by first|rfl|simp [Hb,e]) hs)
 intro _ w2 i
 refine Zt (Zqc (t:=sp || (decide ((r.length:Int)<(n:Nat)))) (fun d=>?_) (fun d=>?_))
 ·have hbad:sp=true∨r.length<n:=by
   rcases Bool.or_eq_true_iff.1 d with f|f
   ·exact .inl f
   ·have:=of_decide_eq_true f;exact .inr (by omega)
  exact En (Ls (Lg [3] (Lw (Zu 0 1 #[.slice az r.length cz,.bool true] i fun w5 x=>Lo (Ld (Lt (Lq (Le (Ly (Dz (Zq1 (v:=.int .u64 0) ⟨0,r,true,az,cz,rfl,(show(numB (tk n (r,sp)).1,(tk n (r,sp)).2)=_ by rw [tk_bad hbad];rfl),hq,x⟩)))))))))))
 ·have a0:(decide ((r.length:Int)<(n:Nat)))=false:=(Bool.or_eq_false_iff.1 d).2
  have hbf:=Bool.or_eq_false_iff.1 d
  have hsf:sp=false:=hbf.1
  have hnr:n≤r.length:=by have:=of_decide_eq_false hbf.2;omega
  refine En (Lk (Lt (Lq (Ls (Lq (Lb (Dz (GoC.loop (T:=Nat×Int) (fun gg=>[(0,zP c 0),(1,.int .i64 (n:Nat)),(4,.int .u64 0),(5,.int .u64 gg.2),(6,.int .i64 (gg.1:Nat))]) (fun gg w=>(gg.1≤n∧gg.2=numB (r.take gg.1))∧St w0 ((Cel c #[.slice az r.length cz,.bool sp] 85)::L) w) (fun gg=>n-gg.1) (0,0) [0,1,4,5,6] (by kernel_rfl) ⟨⟨Nat.zero_le _,rfl⟩,i⟩ ?_))))))))
  rintro⟨jj,z⟩ w7 ⟨hp,b⟩
  dsimp only at hp b
  have hw:∀ w,St w0 L w→RowsAt w az r.length 1 (fun k=>byteC (r.getD k (0:Int))):=fun w h=>hq.row w (hQ w h)
  refine En (Ls (Lq (Dz (Zi ((jj:Int)<(n:Nat)) (fun a1=>?_) (fun a1=>?_)))))
  ·have hjn:jj<r.length:=by omega
   obtain⟨o,q,rfl⟩:=RowsAt.isSome (hw _ (b.drop 1)) (by omega)
   exact Zk (Zt (Zs (Zb (Zaj (Hg 1 (.shift (iShl .u64 z 8)) [.prop ((0:Int)≤8∧IntKind.u64.wrap (z*2 ^ (min (Int.toNat 8) (IntKind.bits .u64)))=iShl .u64 z 8)] (okp ⟨(by first|omega|exact uwrap_nn rfl _),rfl⟩ ok0) (Hl 5 0 0 b (Hx 7 (jj:Int) (r.length:Int) o q 1 (Hg 8 (.gen [.int .u8 (r.getD jj (0:Int))]) [.cell ⟨o,q+(jj*1),none⟩ (.int .u8 (r.getD jj (0:Int)))] (okc (RowsAt.at0 (hw _ (b.drop 1)) (k:=jj) (by first|omega|(simp only [List.length_set];omega)|(simp only [List.length_set,lA,lC,lN];omega)) (j:=0) (by decide) (by kernel_rfl)) ok0) Hz)))) (Zm (Zt (Zaj (Hwi 1 ((jj:Nat)+1) Hz) (GoQ.back (jj+1,iOr .u64 (iShl .u64 z 8) (IntKind.u64.wrap (r.getD jj (0:Int)))) [0,1,4,5,6] (by kernel_rfl) (by show n-(jj+1)<n-jj;omega) ⟨⟨by omega,by rw [numB_succ (by omega),← hp.2]⟩,b⟩))))))))
  ·have hke:jj=n:=by omega
   refine Zx (GoQ.skipC (GoQ.skipL (GoQ.hit (Zt (Zs (Zgj [9] (Hl 4 0 0 b (Hg 6 (.as_ (.slice (subAd az cz n 1) (((r).drop n).length) (cz-n)) (.sub n r.length)) [.prop ((n:Int)=(n:Int)),.prop ((some (Operand.tmp 44)=none→(n:Nat)=0)∧((none:Option Operand)=none→(r.length:Nat)=r.length)∧(n:Nat)≤r.length∧(r.length:Nat)≤cz),.prop (Value.slice (if cz=n then az else (az:Option Addr).map (fun a=>a.add (n*1))) (r.length-n) (cz-n)=Value.slice (subAd az cz n 1) (((r).drop n).length) (cz-n))] (okp (by omega) (okp ⟨(by first|(intro _;rfl)|(intro hc;cases hc)),(by first|(intro _;rfl)|(intro hc;cases hc)),(by omega),(by omega)⟩ (okp (subSl (by simp only [List.length_take,List.length_drop]<;>omega)) ok0))) Hz)) (Zu 0 0 #[.slice (subAd az cz n 1) (((r).drop n).length) (cz-n),.bool sp] b fun a4 u=>Lo (Ld (Lt (Lq (Le (Dz (Zq1 (v:=.int .u64 z) ?_)))))))))))))
   rw [hsf] at u
   exact⟨(numB (r.take n)),(r.drop n),false,(subAd az cz n 1),(cz-n),(by rw [hp.2,hke]),(show(numB (tk n (r,sp)).1,(tk n (r,sp)).2)=_ by rw [tk_ok hsf (by omega)]),(hq.drop (by omega)),u⟩
theorem rWord_spec (Q) (r) (sp) (hQ:∀ w,St w0 L w→Q.holds w) (hq:CutOK Q az r cz) (hs:St w0 ((Cel c #[.slice az r.length cz,.bool sp] 85)::L) w):Cs Tryz.prog 41 #[zP c 0] w fun rv w'=>∃ vv2 rr2 sp2 az2 cz2,rv=.int .u64 vv2∧wordP (r,sp)=(vv2,(rr2,sp2))∧(0≤vv2∧vv2<18446744073709551616)∧CutOK Q az2 rr2 cz2∧St w0 ((Cel c #[.slice az2 rr2.length cz2,.bool sp2] 85)::L) w':=by
 refine Zen Tryz.func41 Tryz.ntmps41 (En (Lq (Ls (Lg [1] (Lw (Zc (number_spec Q r sp 8 (fun w h=>hQ w (h.drop 0)) hq hs) ?_))))))
 rintro q u ⟨a,rr2,d,e,f,rfl,b,i,o⟩
 exact Lz (Le (Dz (Zq1 (v:=.int .u64 a) ⟨a,rr2,d,e,f,rfl,b,(wordP_rng b),i,o⟩)))
theorem rByte_spec (Q) (r) (sp) (hQ:∀ w,St w0 L w→Q.holds w) (hq:CutOK Q az r cz) (hs:St w0 ((Cel c #[.slice az r.length cz,.bool sp] 85)::L) w):Cs Tryz.prog 24 #[zP c 0] w fun rv w'=>∃ vv2 rr2 sp2 az2 cz2,rv=.int .u8 vv2∧byteP (r,sp)=(vv2,(rr2,sp2))∧(0≤vv2∧vv2<256)∧CutOK Q az2 rr2 cz2∧St w0 ((Cel c #[.slice az2 rr2.length cz2,.bool sp2] 85)::L) w':=by
 refine Zen Tryz.func24 Tryz.ntmps24 (En (Lq (Ls (Lg [1] (Lw (Zc (number_spec Q r sp 1 (fun w h=>hQ w (h.drop 0)) hq hs) ?_))))))
 rintro u x ⟨b,rr2,d,e,f,rfl,i,o,q⟩
 refine Lz (Le (Dz (Zq1 (v:=.int .u8 (IntKind.u8.wrap b)) ?_)))
 obtain⟨ha,hb⟩:numB (tk 1 (r,sp)).1=b∧(tk 1 (r,sp)).2=(rr2,d):=by
  have a:=i
  unfold numP at a
  exact Prod.mk.inj a
 have a:byteP (r,sp)=(IntKind.u8.wrap b,(rr2,d)):=by unfold byteP;rw [ha,hb]
 exact⟨(IntKind.u8.wrap b),rr2,d,e,f,rfl,a,(byteP_rng a),o,q⟩
theorem rHalf_spec (Q) (r) (sp) (hQ:∀ w,St w0 L w→Q.holds w) (hq:CutOK Q az r cz) (hs:St w0 ((Cel c #[.slice az r.length cz,.bool sp] 85)::L) w):Cs Tryz.prog 26 #[zP c 0] w fun rv w'=>∃ nn2 rr2 sp2 az2 cz2,rv=.int .u16 (nn2:Nat)∧halfP (r,sp)=(nn2,(rr2,sp2))∧nn2<65536∧CutOK Q az2 rr2 cz2∧St w0 ((Cel c #[.slice az2 rr2.length cz2,.bool sp2] 85)::L) w':=by
 refine Zen Tryz.func26 Tryz.ntmps26 (En (Lq (Ls (Lg [1] (Lw (Zc (number_spec Q r sp 2 (fun w h=>hQ w (h.drop 0)) hq hs) ?_))))))
 rintro x z ⟨a,rr2,d,e,f,rfl,i,o,q⟩
 refine Lz (Le (Dz (Zq1 (v:=.int .u16 (IntKind.u16.wrap a)) ?_)))
 obtain⟨ha,hb⟩:numB (tk 2 (r,sp)).1=a∧(tk 2 (r,sp)).2=(rr2,d):=by
  have b:=i
  unfold numP at b
  exact Prod.mk.inj b
 have b:halfP (r,sp)=((IntKind.u16.wrap a).toNat,(rr2,d)):=by unfold halfP;rw [ha,hb]
 have u:0≤IntKind.u16.wrap a:=Int.emod_nonneg _ (by decide)
 exact⟨(IntKind.u16.wrap a).toNat,rr2,d,e,f,(by rw [Int.toNat_of_nonneg u]),b,(halfP_rng b),o,q⟩
theorem rRaw_spec (Q) (r) (sp) (n) (hQ:∀ w,St w0 L w→Q.holds w) (hq:CutOK Q az r cz) (hs:St w0 ((Cel c #[.slice az r.length cz,.bool sp] 85)::L) w):Cs Tryz.prog 25 #[zP c 0,.int .i64 (n:Nat)] w fun rv w'=>∃ ao2 co2 ll2 rr2 sp2 az2 cz2,rv=.slice ao2 ll2.length co2∧tk n (r,sp)=(ll2,(rr2,sp2))∧CutOK Q az2 rr2 cz2∧St w0 ((Sl ao2 co2 5 1 byteC ll2)::(Cel c #[.slice az2 rr2.length cz2,.bool sp2] 85)::L) w':=by
 refine Zen Tryz.func25 Tryz.ntmps25 (Zs ?_)
 have hrl:=hq.len
 have hcap:=hq.cap
 refine Za (Zt (Zs (Zs (GoC.join (T:=Unit) (E:=fun _=>[(22,.bool ((sp || (decide ((n:Int)<0))) || (decide ((r.length:Int)<(n:Nat))))),(4,.slice none 0 0),(0,zP c 0),(1,.int .i64 (n:Nat))]) (F:=fun _ w=>St w0 ((Cel c #[.slice az r.length cz,.bool sp] 85)::L) w) ?_ ?_))))
 ·refine Zg [] (Zpj 0 5 (Hl 3 0 1 hs Hz) (Zsq 10 sp (fun i=>?_) (fun i=>?_)))
  ·exact En (Lud (Dz (Zmb [22,4,0,1] () true (by first|rfl|simp [Hb,i]) hs)))
  ·refine Zr 5 4 [] (Zsq 14 (decide ((n:Int)<0)) (fun d=>?_) (fun d=>?_))
   ·exact En (Lud (Dz (Zmb [22,4,0,1] () true (by first|rfl|simp [Hb,i,d]) hs)))
   ·exact Zjd (Hl 12 0 0 hs Hz) (Zmb [22,4,0,1] () (decide ((r.length:Int)<(n:Nat))) (by first|rfl|simp [Hb,i,d]) hs)
 intro _ w3 u
 refine Zt (Zqc (t:=(sp || (decide ((n:Int)<0))) || (decide ((r.length:Int)<(n:Nat)))) (fun b=>?_) (fun b=>?_))
 ·have hbad:sp=true∨r.length<n:=by simp only [Bool.or_eq_true,decide_eq_true_eq] at b;rcases b with(o|o)|o<;>first|exact .inl o|exact .inr (by omega)
  exact En (Ls (Lg [3] (Lw (Zu 0 1 #[.slice az r.length cz,.bool true] u fun w6 a5=>Lo (Ld (Lt (Lq (Le (Ly (Dz (Zq1 (v:=.slice none 0 0) ⟨none,0,([]:List Int),r,true,az,cz,rfl,(tk_bad hbad),hq,(St.slNil a5 5 1 byteC)⟩)))))))))))
 ·have x:=(Bool.or_eq_false_iff.1 b).1
  have h5ab:(decide ((n:Int)<0))=false:=(Bool.or_eq_false_iff.1 x).2
  have a7:(decide ((r.length:Int)<(n:Nat)))=false:=(Bool.or_eq_false_iff.1 b).2
  have hbf:=b
  simp only [Bool.or_eq_false_iff,decide_eq_false_iff_not] at hbf
  have hsf:sp=false:=hbf.1.1
  have hnr:n≤r.length:=by omega
  refine En (Lk (Lt (Ls (Lg [0,7] (Dz (GoR.sliceLit0 rfl (by kernel_rfl) (t:=22) (e:=5) (by kernel_rfl) (by kernel_rfl) (ti:=Tryz.t5) (by kernel_rfl) u fun z a8 a9 b0=>?_))))))
  have q:St w0 ((Sl (some ⟨z,0,none⟩) 0 5 1 byteC ([]:List Int))::(Cel c #[.slice az r.length cz,.bool sp] 85)::L) a8:=St.slOf (l:=([]:List Int)) (f:=byteC) a9 b0 (byteF).size (by simp only [lC,lN,maxLen];omega) (by kernel_rfl)
  refine Zoj (Hl 4 1 0 q (Hg 6 (.as_ (.slice az (((r).take n).length) cz) (.sub 0 n)) [.prop ((n:Int)=(n:Int)),.prop (((none:Option Operand)=none→(0:Nat)=0)∧(some (Operand.tmp 31)=none→(n:Nat)=r.length)∧(0:Nat)≤n∧(n:Nat)≤cz),.prop (Value.slice (if cz=0 then az else (az:Option Addr).map (fun a=>a.add (0*1))) (n-0) (cz-0)=Value.slice az (((r).take n).length) cz)] (okp (by omega) (okp ⟨(by first|(intro _;rfl)|(intro hc;cases hc)),(by first|(intro _;rfl)|(intro hc;cases hc)),(by omega),(by omega)⟩ (okp (subSl0 (by simp only [List.length_take,List.length_drop]<;>omega)) ok0))) Hz)) (GoR.append rfl (by kernel_rfl) bytesOK byteF (ad:=some ⟨z,0,none⟩) (c:=0) (xs:=([]:List Int)) (ys:=(r).take n) (adx:=az) (cx:=cz) (0:Int) (by kernel_rfl) q (RowsAt.takeL (hq.row _ (hQ _ (q.drop 2))) _ (by omega)) hq.som.nn (by first|omega|(simp only [List.length_take,lN];omega)) (by first|omega|(simp only [List.length_take,lN];omega)) fun a0 a1 b2 a2=>Lz (Ls (Dz (Zgj [9] (Hl 4 1 0 a2 (Hg 6 (.as_ (.slice (subAd az cz n 1) (((r).drop n).length) (cz-n)) (.sub n r.length)) [.prop ((n:Int)=(n:Int)),.prop ((some (Operand.tmp 39)=none→(n:Nat)=0)∧((none:Option Operand)=none→(r.length:Nat)=r.length)∧(n:Nat)≤r.length∧(r.length:Nat)≤cz),.prop (Value.slice (if cz=n then az else (az:Option Addr).map (fun a=>a.add (n*1))) (r.length-n) (cz-n)=Value.slice (subAd az cz n 1) (((r).drop n).length) (cz-n))] (okp (by omega) (okp ⟨(by first|(intro _;rfl)|(intro hc;cases hc)),(by first|(intro _;rfl)|(intro hc;cases hc)),(by omega),(by omega)⟩ (okp (subSl (by simp only [List.length_take,List.length_drop]<;>omega)) ok0))) Hz)) (Zu 1 0 #[.slice (subAd az cz n 1) (((r).drop n).length) (cz-n),.bool sp] a2 fun b3 a3=>Lo (Ld (Lt (Lq (Le (Dz (Zq1 (v:=.slice a0 (((r).take n).length) a1) ?_)))))))))))
  rw [hsf] at a3
  exact⟨a0,a1,(r).take n,(r.drop n),false,(subAd az cz n 1),(cz-n),rfl,(tk_ok hsf hnr),(hq.drop hnr),a3⟩
theorem rText_spec (Q) (r) (sp) (most) (hQ:∀ w,St w0 L w→Q.holds w) (hq:CutOK Q az r cz) (hs:St w0 ((Cel c #[.slice az r.length cz,.bool sp] 85)::L) w):Cs Tryz.prog 42 #[zP c 0,.int .i64 most] w fun rv w'=>∃ ss2 rr2 sp2 az2 cz2,rv=.string ss2∧textP most (r,sp)=(ss2,(rr2,sp2))∧CutOK Q az2 rr2 cz2∧St w0 ((Cel c #[.slice az2 rr2.length cz2,.bool sp2] 85)::L) w':=by
 refine Zen Tryz.func42 Tryz.ntmps42 (En (Lq (Ls (Dz (Zaj (Hl 3 0 0 hs Hz) (En (Lt (Ls (Lg [1] (Lw (Zc (rHalf_spec Q r sp (fun w h=>hQ w (h.drop 0)) hq hs) ?_)))))))))))
 rintro c0 c1 ⟨a,rr2,b,a6,a7,rfl,a0,c2,a1,i⟩
 refine Zojd (Hwi 2 (a:Nat) Hz) (Zt (Zs (Zs (GoC.join (T:=Unit) (E:=fun _=>[(31,.bool ((b || (decide ((a:Int)>most))) || (decide ((a:Int)>(rr2.length:Nat))))),(6,.int .i64 (a:Nat)),(5,.slice az r.length cz),(4,.string (⟨#[]⟩:ByteArray)),(0,zP c 0)]) (F:=fun _ w=>St w0 ((Cel c #[.slice a6 rr2.length a7,.bool b] 85)::L) w) ?_ ?_))))
 ·refine Zg [] (Zpj 0 5 (Hl 3 0 1 i Hz) (Zsq 18 b (fun u=>?_) (fun u=>?_)))
  ·exact En (Lud (Dz (Zmb [31,6,5,4,0] () true (by first|rfl|simp [Hb,u]) i)))
  ·refine Zr 5 5 [] (Zsq 23 (decide ((a:Int)>most)) (fun o=>?_) (fun o=>?_))
   ·exact En (Lud (Dz (Zmb [31,6,5,4,0] () true (by first|rfl|simp [Hb,u,o]) i)))
   ·exact Zjd (Hl 14 0 0 i Hz) (Zmb [31,6,5,4,0] () (decide ((a:Int)>(rr2.length:Nat))) (by first|rfl|simp [Hb,u,o]) i)
 intro _ c3 a2
 refine Zt (Zqc (t:=(b || (decide ((a:Int)>most))) || (decide ((a:Int)>(rr2.length:Nat)))) (fun q=>?_) (fun q=>?_))
 ·have hbad:(b || decide ((a:Int)>most))=true∨rr2.length<a:=by
   rcases Bool.or_eq_true_iff.1 q with d|d
   ·exact .inl d
   ·have:=of_decide_eq_true d;exact .inr (by omega)
  exact En (Ls (Lg [4] (Lw (Zu 0 0 #[.slice az r.length cz,.bool b] a2 fun c4 a9=>Lo (Ld (Lt (Ls (Lg [3] (Lw (Zu 0 1 #[.slice az r.length cz,.bool true] a9 fun c5 b0=>Lo (Ld (Lt (Lq (Le (Ly (Dz (Zq1 (v:=.string (⟨#[]⟩:ByteArray)) ⟨⟨#[]⟩,r,true,az,cz,rfl,(textP_bad a0 hbad),hq,b0⟩)))))))))))))))))
 ·have a3:=(Bool.or_eq_false_iff.1 q).1
  have h16ab:(decide ((a:Int)>most))=false:=(Bool.or_eq_false_iff.1 a3).2
  have b1:(decide ((a:Int)>(rr2.length:Nat)))=false:=(Bool.or_eq_false_iff.1 q).2
  have hbf:=q
  simp only [Bool.or_eq_false_iff,decide_eq_false_iff_not] at hbf
  have hsf:b=false:=hbf.1.1
  refine En (Lk (Lt (Ls (Lg [2] (Lw (Zc (rRaw_spec Q rr2 b a (fun w h=>hQ w (h.drop 0)) a1 a2) ?_))))))
  rintro c7 c8 ⟨b2,b3,x,b4,b5,b6,b7,rfl,a4,b8,a5⟩
  refine Lo (Dz (GoR.bytesStrG rfl (by kernel_rfl) (src:=22) (dst:=9) (e:=5) (ad:=b2) (n:=x.length) (cap:=b3) (f:=byteC) rfl x rfl (by kernel_rfl) (by kernel_rfl) (by kernel_rfl) (by kernel_rfl) (by have d:=tk_byt (n:=a) (s:=(rr2,b)) a1.byt;rw [a4] at d;exact d) (a5.rows 0 rfl (byteF).size (0:Int)) (En (Lud (Lt (Le (Dz (Zq1 (v:=.string (strOf x)) ?_))))))))
  have z:=a4
  rw [tk_ok hsf (by omega)] at z
  have e2:=Prod.mk.inj (Prod.mk.inj z).2
  exact⟨strOf x,b4,b5,b6,b7,rfl,((textP_ok (hsf▸a0) (by omega) (by omega)).trans (by rw [((Prod.mk.inj z).1),e2.1,e2.2])),b8,(a5.dr 1)⟩
end
section
variable {w0 w : World} {L : List Asn} {ad : Option Addr} {c : Nat} {az : Option Addr} {cz : Nat}
theorem pad_set {l:List Int}{k:Nat}(hk:k<l.length) (h:l.length≤32):(l.take k++List.replicate (32-k) 0).set k (l.getD k 0)=l.take (k+1)++List.replicate (32-(k+1)) 0:=by
 rw [take_succ_getD (d:=(0:Int)) hk,List.set_append_right _ _ (by rw [List.length_take];omega),List.length_take,Nat.min_eq_left (by omega),Nat.sub_self,show 32-k=(32-(k+1))+1 from by omega,List.replicate_succ,List.set_cons_zero,List.append_assoc]
 rfl
theorem pad_len {l:List Int}{k:Nat}(hk:k≤l.length) (h:l.length≤32):(l.take k++List.replicate (32-k) 0).length=32:=by
 rw [lA,List.length_take,List.length_replicate];omega
theorem vecP {l:List Int}(h:l.length≤32):arrCells byteC (l++List.replicate (32-l.length) 0)=D32.cells (vecL l):=by
 rw [D32.eqm,byte_flat]
 apply Array.ext'
 have e:(l++List.replicate 32 0).take 32=l++List.replicate (32-l.length) 0:=by
  rw [List.take_append,List.take_of_length_le h,List.take_replicate,Nat.min_eq_left (by omega)]
 show(l++List.replicate (32-l.length) 0).map (Value.int .u8)=(((l++List.replicate 32 0).take 32).toArray.map (Value.int .u8)).toList
 rw [e]
 simp
theorem rhash_spec (Q) (r) (sp) (hQ:∀ w,St w0 L w→Q.holds w) (hq:CutOK Q az r cz) (hs:St w0 ((Cel c #[.slice az r.length cz,.bool sp] 85)::L) w):Cs Tryz.prog 107 #[zP c 0] w fun rv w'=>∃ dd2 rr2 sp2 az2 cz2,rv=.agg (D32.cells dd2)∧hashP (r,sp)=(dd2,(rr2,sp2))∧(∀ z∈dd2.toList,0≤z∧z<256)∧CutOK Q az2 rr2 cz2∧St w0 ((Cel c #[.slice az2 rr2.length cz2,.bool sp2] 85)::L) w':=by
 refine Zen Tryz.func107 Tryz.ntmps107 (En (Ls (Lg [0] (Dz (Zag (arrCells byteC (List.replicate 32 (0:Int))) hs fun i w2 a6=>Lo (Ld (Lt (Ls (Lg [0] (Dz (Zag (arrCells byteC (List.replicate 32 (0:Int))) a6 fun e w5 a7=>Lo (Ld (Lt (Ls (Lg [1] (Lw (Zc (rRaw_spec Q r sp 32 (fun w h=>hQ w (h.drop 2)) hq (a7.pl 2)) ?_)))))))))))))))))
 rintro c2 a9 ⟨a2,u,d,o,q,x,a0,rfl,a4,b0,b2⟩
 refine Lz (Ls (Lq (Lb (Dz ?_))))
 have h8:(d).length≤32:=by have h7:=tk_len 32 (r,sp);rw [a4] at h7;exact h7
 have b3:=(((b2.pl 1).pl 1).pl 2)
 have b5:St w0 ((Cel e (arrCells byteC (d.take 0++List.replicate (32-0) 0)) 32)::(Sl a2 u 5 1 byteC d)::(Cel c #[.slice x o.length a0,.bool q] 85)::(Cel i (arrCells byteC (List.replicate 32 (0:Int))) 32)::L) a9:=b3
 refine GoC.loop (T:=Nat) (fun gg=>[(2,zP i 0),(3,zP e 0),(4,.slice a2 d.length u),(5,.int .i64 (gg:Nat))]) (fun gg w=>(gg≤d.length)∧St w0 ((Cel e (arrCells byteC (d.take gg++List.replicate (32-gg) 0)) 32)::(Sl a2 u 5 1 byteC d)::(Cel c #[.slice x o.length a0,.bool q] 85)::(Cel i (arrCells byteC (List.replicate 32 (0:Int))) 32)::L) w) (fun gg=>d.length-gg) 0 [2,3,4,5] (by kernel_rfl) ⟨Nat.zero_le _,b5⟩ ?_
 rintro k c3 ⟨hp,a1⟩
 refine En (Ls (Lq (Dz (Zi ((k:Int)<(d.length:Nat)) (fun b6=>?_) (fun b6=>?_)))))
 ·have hk:k<d.length:=by omega
  have hpl:=pad_len (k:=k) (by omega) h8
  obtain⟨a3,rfl⟩:=Sl.isSome (a1.at_ 1 rfl) (by omega)
  refine Zk (Zt (Zs (Zb (Zgj [6] (Hx 3 (k:Int) (d.length:Int) a3 0 1 (Hg 4 (.gen [.int .u8 (d.getD k (0:Int))]) [.cell ⟨a3,0+(k*1),none⟩ (.int .u8 (d.getD k (0:Int)))] (okc (RowsAt.at0 (a1.rows 1 rfl (byteF).size (0:Int)) (k:=k) (by first|omega|(simp only [List.length_set];omega)|(simp only [List.length_set,lA,lC,lN];omega)) (j:=0) (by decide) (by kernel_rfl)) ok0) (Hx 5 (k:Int) (32:Int) e 0 1 Hz))) (GoR.store rfl rfl (by kernel_rfl) (b:=e) (off:=0+(k*1)) (v:=.int .u8 (d.getD k (0:Int))) (by kernel_rfl) (by kernel_rfl) (ti:=Tryz.t5) (by kernel_rfl) a1 0 rfl (by kernel_rfl) (by kernel_rfl) (by rw [Nat.zero_add];exact arr_room (f:=byteC) (size:=1) (l:=(d.take k++List.replicate (32-k) 0)) (k:=k) (byteF).size (by first|omega|(simp only [List.length_set];omega)|(simp only [List.length_set,lA,lC,lN];omega))) (cs':=arrCells byteC ((d.take k++List.replicate (32-k) 0).set k (d.getD k (0:Int)))) (L':=(Cel e (arrCells byteC ((d.take k++List.replicate (32-k) 0).set k (d.getD k (0:Int)))) 32)::(Sl (some ⟨a3,0,none⟩) u 5 1 byteC d)::(Cel c #[.slice x o.length a0,.bool q] 85)::(Cel i (arrCells byteC (List.replicate 32 (0:Int))) 32)::L) (by rw [Nat.zero_add];exact splice_arr (f:=byteC) (size:=1) (l:=(d.take k++List.replicate (32-k) 0)) (k:=k) (byteF).size (by first|omega|(simp only [List.length_set];omega)|(simp only [List.length_set,lA,lC,lN];omega)) (d.getD k (0:Int))) rfl fun b7 b8=>Lo (Ld (Lm (Lt (Dz (Zaj (Hwi 1 ((k:Nat)+1) Hz) ?_))))))))))
  have b9:St w0 ((Cel e (arrCells byteC (d.take (k+1)++List.replicate (32-(k+1)) 0)) 32)::(Sl (some ⟨a3,0,none⟩) u 5 1 byteC d)::(Cel c #[.slice x o.length a0,.bool q] 85)::(Cel i (arrCells byteC (List.replicate 32 (0:Int))) 32)::L) b7:=(by rw [← pad_set hk h8];exact b8)
  exact GoQ.back (k+1) [2,3,4,5] (by kernel_rfl) (by show d.length-(k+1)<d.length-k;omega) ⟨by omega,b9⟩
 ·have hke:k=d.length:=by omega
  subst hke
  have hpl:=pad_len (k:=d.length) (by omega) h8
  refine Zx (GoQ.skipC (GoQ.skipL (GoQ.hit (Zt (Zs (Zgj [1] (Hg 0 (.agg (arrCells byteC (d.take d.length++List.replicate (32-d.length) 0))) [.prop (Array.size ((arrCells byteC (d.take d.length++List.replicate (32-d.length) 0)))=32),.cells ⟨e,0,none⟩ (arrCells byteC (d.take d.length++List.replicate (32-d.length) 0))] (okp (arrvSize byteF (show((d.take d.length++List.replicate (32-d.length) 0)).length=32 from hpl) rfl) (oka (a1.cells 0 0 rfl (by simp)) ok0)) Hz) (GoR.store rfl rfl (by kernel_rfl) (b:=i) (off:=0) (v:=.agg (arrCells byteC (d.take d.length++List.replicate (32-d.length) 0))) (by kernel_rfl) (by kernel_rfl) (ti:=Tryz.t32) (by kernel_rfl) a1 3 rfl (arrvCells byteF (show((d.take d.length++List.replicate (32-d.length) 0)).length=32 from hpl) (by kernel_rfl)) (arrvOne byteF) (arrvRoom byteF (show((d.take d.length++List.replicate (32-d.length) 0)).length=32 from hpl) (by rw [arrvSize byteF (show(List.replicate 32 (0:Int)).length=32 from(by decide)) (m:=32) rfl];rfl)) (cs':=arrCells byteC (d.take d.length++List.replicate (32-d.length) 0)) (L':=(Cel e (arrCells byteC (d.take d.length++List.replicate (32-d.length) 0)) 32)::(Sl a2 u 5 1 byteC d)::(Cel c #[.slice x o.length a0,.bool q] 85)::(Cel i (arrCells byteC (d.take d.length++List.replicate (32-d.length) 0)) 32)::L) (arrvPut byteF (show((d.take d.length++List.replicate (32-d.length) 0)).length=32 from hpl) (by rw [arrvSize byteF (show(List.replicate 32 (0:Int)).length=32 from(by decide)) (m:=32) rfl];rfl)) rfl fun c4 a5=>Lo (Ld (Lt (Le (Dz (GoQ.done (.inl rfl) (v:=.agg (arrCells byteC (d.take d.length++List.replicate (32-d.length) 0))) (fun a hf=>resultsA rfl (by kernel_rfl) (ti:=Tryz.t32) (by kernel_rfl) (by kernel_rfl) (vs:=(arrCells byteC (d.take d.length++List.replicate (32-d.length) 0))) (arrvSize byteF (show((d.take d.length++List.replicate (32-d.length) 0)).length=32 from hpl) (by kernel_rfl)) (a5.cells 3 0 rfl (by simp)) a hf) ?_))))))))))))
  have h6:=tk_byt (n:=32) (s:=(r,sp)) hq.byt
  rw [a4] at h6
  have h9:hashP (r,sp)=(vecL d,(o,q)):=by unfold hashP;rw [a4]
  have c0:=((((a5.pl 2).pl 3).pl 3).pl 3)
  exact⟨(vecL d),o,q,x,a0,(congrArg Value.agg (by rw [List.take_length];exact vecP h8)),h9,(vecL_byt h6),b0,(c0.dr 3)⟩
def askedR (r:TRq):Bool :=
 (((((((decide ((r.cl:Int) ≥ 1)) && (decide ((r.cl:Int)≤8))) && (decide ((r.tm:Int) ≥ 1))) && (decide ((r.tm:Int)≤4611686018427387904))) && (decide ((r.op.ky.size:Int)≤32))) && (decide ((r.op.tx.size:Int)≤32))) && (decide ((r.op.va.size:Int)≤128))) && (decide ((r.op.ol.size:Int)≤128))
theorem rasked_spec (r) (hs:St w0 (L) w):Cs Tryz.prog 68 #[.agg (TRq.cells r)] w fun rv w'=>rv=.bool (askedR r)∧St w0 (L) w':=by
 refine Zen Tryz.func68 Tryz.ntmps68 (En (Ls (Lg [0] (Dz (Zbg (TRq.cells r) hs fun x w2 a=>Lz (Ls (Dz (GoC.join (T:=Unit) (E:=fun _=>[(2,.bool ((((((((decide ((r.cl:Int) ≥ 1)) && (decide ((r.cl:Int)≤8))) && (decide ((r.tm:Int) ≥ 1))) && (decide ((r.tm:Int)≤4611686018427387904))) && (decide ((r.op.ky.size:Int)≤32))) && (decide ((r.op.tx.size:Int)≤32))) && (decide ((r.op.va.size:Int)≤128))) && (decide ((r.op.ol.size:Int)≤128))))]) (F:=fun _ w=>St w0 ((Cel x (TRq.cells r) 34)::L) w) ?_ ?_))))))))
 ·refine Zg [] (Zpj 0 4 (Hl 1 0 0 a Hz) (Zsq 6 (decide ((r.cl:Int) ≥ 1)) (fun b=>?_) (fun b=>?_)))
  ·refine Zpj 4 5 (Hl 5 0 0 a Hz) (Zsq 11 (decide ((r.cl:Int)≤8)) (fun d=>?_) (fun d=>?_))
   ·refine Zpj 9 5 (Hl 10 0 1 a Hz) (Zsq 16 (decide ((r.tm:Int) ≥ 1)) (fun e=>?_) (fun e=>?_))
    ·refine Zpj 14 5 (Hl 15 0 1 a Hz) (Zsq 21 (decide ((r.tm:Int)≤4611686018427387904)) (fun f=>?_) (fun f=>?_))
     ·refine Zpj 19 7 (Hl 21 0 3 a Hz) (Zsq 28 (decide ((r.op.ky.size:Int)≤32)) (fun i=>?_) (fun i=>?_))
      ·refine Zpj 26 7 (Hl 28 0 6 a Hz) (Zsq 35 (decide ((r.op.tx.size:Int)≤32)) (fun o=>?_) (fun o=>?_))
       ·refine Zpj 33 7 (Hl 35 0 4 a Hz) (Zsq 42 (decide ((r.op.va.size:Int)≤128)) (fun q=>?_) (fun q=>?_))
        ·exact Zjd (Hl 42 0 5 a Hz) (Zmb [2] () (decide ((r.op.ol.size:Int)≤128)) (by first|rfl|simp [Hb,b,d,e,f,i,o,q]) a)
        ·exact En (Lud (Dz (Zmb [2] () false (by first|rfl|simp [Hb,b,d,e,f,i,o,q]) a)))
       ·exact En (Lud (Dz (Zmb [2] () false (by first|rfl|simp [Hb,b,d,e,f,i,o]) a)))
      ·exact En (Lud (Dz (Zmb [2] () false (by first|rfl|simp [Hb,b,d,e,f,i]) a)))
     ·exact En (Lud (Dz (Zmb [2] () false (by first|rfl|simp [Hb,b,d,e,f]) a)))
    ·exact En (Lud (Dz (Zmb [2] () false (by first|rfl|simp [Hb,b,d,e]) a)))
   ·exact En (Lud (Dz (Zmb [2] () false (by first|rfl|simp [Hb,b,d]) a)))
  ·exact En (Lud (Dz (Zmb [2] () false (by first|rfl|simp [Hb,b]) a)))
 intro _ a7 a6
 exact Zt (Ze (Zq1 (v:=.bool ((((((((decide ((r.cl:Int) ≥ 1)) && (decide ((r.cl:Int)≤8))) && (decide ((r.tm:Int) ≥ 1))) && (decide ((r.tm:Int)≤4611686018427387904))) && (decide ((r.op.ky.size:Int)≤32))) && (decide ((r.op.tx.size:Int)≤32))) && (decide ((r.op.va.size:Int)≤128))) && (decide ((r.op.ol.size:Int)≤128)))) (Zfb (by rw [askedR]) (a6.dr 1))))
theorem askedR_eq (r:TRq):askedR r=askedB r:=by
 unfold askedR askedB
 rw [Bool.eq_iff_iff]
 simp only [Bool.and_eq_true,decide_eq_true_eq]
 omega
theorem rrequest_spec (l) (r) (hl:l.length≤100000) (hk:RqOK r) (hz:RqSz r) (hs:St w0 ((Sl ad c 5 1 byteC l)::L) w):Cs Tryz.prog 105 #[.slice ad l.length c,.agg (TRq.cells r)] w fun rv w'=>∃ ao co,rv=.slice ao ((l++rqB r).length) co∧St w0 ((Sl ao co 5 1 byteC (l++rqB r))::L) w':=by
 refine Zen Tryz.func105 Tryz.ntmps105 (Zs ?_)
 have a6:=hz.ky
 have a7:=hz.va
 have a8:=hz.ol
 have a9:=hz.tx
 have b0:=hk.tm
 have b2:=hk.am
 refine Zg [0] (Zbg (TRq.cells r) hs fun z w2 a=>Lz (Ls (Dz (Zgj [7,8] (Hl 2 0 0 a (Hl 6 0 2 a Hz)) (Zll bytesOK byteF [(IntKind.u8.wrap r.cl:Int),(r.op.kd:Int)] a fun b4 w5 a0=>Lo (Dz (Zap bytesOK byteF (0:Int) (a0.pl 2) (by first|omega|(simp only [lA,lC,lN,wd_length,hf_length,tx_length,strB_length] at *;omega)) fun b3 b5 w9 a2=>Lz (Ls (Dz (ZD (rds [0,1,2,4,5,6] (.ef 3 (.ef 7 (.rd 8 .done)))) a2 fun b6 b b7=>Zj (Hl 2 2 1 b (Hl 6 2 7 b Hz)) (Zc (rword_spec (l++([(IntKind.u8.wrap r.cl:Int),(r.op.kd:Int)])) r.tm (by simp only [lA,lC,lN,wd_length,hf_length,tx_length] at *;omega) hk.tm b) ?_)))))))))))
 rintro b8 b9 ⟨c0,c1,rfl,d⟩
 refine⟨(opl (n:=[.cell ⟨z,7,none⟩ (.int .u64 r.op.am)]) (by kernel_rfl) (okc (d.cell 2 rfl (by kernel_rfl)) ok0)),(Zc (rword_spec ((l++([(IntKind.u8.wrap r.cl:Int),(r.op.kd:Int)]))++wd r.tm) r.op.am (by simp only [lA,lC,lN,wd_length,hf_length,tx_length] at *;omega) hk.am d) ?_)⟩
 rintro c2 c3 ⟨c4,c5,rfl,e⟩
 refine Lz (Ls (Dz (Zgj [4] (Hl 3 2 3 e Hz) (Zc (rtext_spec (((l++([(IntKind.u8.wrap r.cl:Int),(r.op.kd:Int)]))++wd r.tm)++wd r.op.am) r.op.ky (by simp only [lA,lC,lN,wd_length,hf_length,tx_length] at *;omega) (by omega) e) ?_))))
 rintro c6 c7 ⟨c8,c9,rfl,f⟩
 refine Lz (Ls (Dz (Zgj [4] (Hl 3 2 4 f Hz) (Zc (rtext_spec ((((l++([(IntKind.u8.wrap r.cl:Int),(r.op.kd:Int)]))++wd r.tm)++wd r.op.am)++tx r.op.ky) r.op.va (by simp only [lA,lC,lN,wd_length,hf_length,tx_length] at *;omega) (by omega) f) ?_))))
 rintro d0 d1 ⟨d2,d3,rfl,i⟩
 refine Lz (Ls (Dz (Zgj [4] (Hl 3 2 5 i Hz) (Zc (rtext_spec (((((l++([(IntKind.u8.wrap r.cl:Int),(r.op.kd:Int)]))++wd r.tm)++wd r.op.am)++tx r.op.ky)++tx r.op.va) r.op.ol (by simp only [lA,lC,lN,wd_length,hf_length,tx_length] at *;omega) (by omega) i) ?_))))
 rintro d4 d5 ⟨d6,d7,rfl,o⟩
 refine Lz (Ls (Dz (Zgj [4] (Hl 3 2 6 o Hz) (Zc (rtext_spec ((((((l++([(IntKind.u8.wrap r.cl:Int),(r.op.kd:Int)]))++wd r.tm)++wd r.op.am)++tx r.op.ky)++tx r.op.va)++tx r.op.ol) r.op.tx (by simp only [lA,lC,lN,wd_length,hf_length,tx_length] at *;omega) (by omega) o) ?_))))
 rintro d8 d9 ⟨q,u,rfl,a3⟩
 refine Lz (Lq (Le (Dz (Zq1 (v:=.slice q ((((((((l++([(IntKind.u8.wrap r.cl:Int),(r.op.kd:Int)]))++wd r.tm)++wd r.op.am)++tx r.op.ky)++tx r.op.va)++tx r.op.ol)++tx r.op.tx).length) u) ?_))))
 have a4:=(((a3.pl 0).pl 2).pl 2)
 have x:((((((l++([(IntKind.u8.wrap r.cl:Int),(r.op.kd:Int)]))++wd r.tm)++wd r.op.am)++tx r.op.ky)++tx r.op.va)++tx r.op.ol)++tx r.op.tx=l++rqB r:=by simp only [rqB,List.append_assoc]
 exact⟨q,u,by rw [x],by rw [← x];exact(a4.dr 2)⟩
end
section
variable {w0 w : World} {L : List Asn} {c : Nat} {az : Option Addr} {cz : Nat}
theorem cutByteN_spec (Q) (r) (sp) (hQ:∀ w,St w0 L w→Q.holds w) (hq:CutOK Q az r cz) (hs:St w0 ((Cel c #[.slice az r.length cz,.bool sp] 150)::L) w) :
 Cs Tryz.prog 45 #[zP c 0] w fun rv w'=>∃ nn2 rr2 sp2 az2 cz2,rv=.int .u8 (nn2:Nat)∧(byteP (r,sp)=((nn2:Int),(rr2,sp2))∧nn2<256)∧CutOK Q az2 rr2 cz2∧St w0 ((Cel c #[.slice az2 rr2.length cz2,.bool sp2] 150)::L) w':=by
 refine Calls.ret (cutByte_spec Q r sp hQ hq hs) ?_
 rintro v w' ⟨vv,rr,a,b,d,e,f,hr,i,o⟩
 exact⟨vv.toNat,rr,a,b,d,by rw [Int.toNat_of_nonneg hr.1];exact e,⟨by rw [Int.toNat_of_nonneg hr.1];exact f,by omega⟩,i,o⟩
def carP (s:CS):TMs×Bool×CS :=
 let h:=halfP s
 let o:=tk h.1 h.2
 ((getM o.1).1,decide ((getM o.1).2=0),o.2)
theorem carP_eq {s s1 s2:CS}{n:Nat}{l:List Int}{m:TMs}{e:Int}(h1:halfP s=(n,s1)) (h2:tk n s1=(l,s2)) (h3:getM l=(m,e)):carP s=(m,decide (e=0),s2):=by
 unfold carP
 simp only [h1,h2,h3]
theorem carried_spec (Q) (r) (sp) (hQ:∀ w,St w0 L w→Q.holds w) (hq:CutOK Q az r cz) (hs:St w0 ((Cel c #[.slice az r.length cz,.bool sp] 150)::L) w):Cs Tryz.prog 81 #[zP c 0] w fun rv w'=>∃ mm2 bb2 rr2 sp2 az2 cz2,rv=.tuple #[.agg (TMs.cells mm2),.bool bb2]∧carP (r,sp)=(conM mm2,bb2,(rr2,sp2))∧MsOK mm2∧CutOK Q az2 rr2 cz2∧St w0 ((Sl mm2.bd.qa mm2.bd.qc 143 2 TPr.cells mm2.bd.ql)::(Cel c #[.slice az2 rr2.length cz2,.bool sp2] 150)::L) w':=by
 refine Zen Tryz.func81 Tryz.ntmps81 (En (Ls (Lg [0] (Dz (Zag (TMs.cells dMs) hs fun b1 w2 a2=>Lz (Ls (Lg [2,4,5,9,10] (Lw (Zc (cutHalf_spec Q r sp (fun w h=>hQ w (h.drop 1)) hq (a2.pl 1)) ?_)))))))))
 rintro c0 c1 ⟨b,e,i,c2,c3,rfl,q,c4,u,a4⟩
 refine Zoj (Hwi 3 (b:Nat) Hz) (Zc (cutRaw_spec Q e i b (fun w h=>hQ w (h.drop 1)) u a4) ?_)
 rintro c5 c6 ⟨a5,a6,x,a7,a8,a9,b0,rfl,o,b2,b3⟩
 refine Lo (Dz (Zqa (f:=108) (args:=#[.slice a5 x.length a6]) Tryz.call108 (mget_spec x (by have a:=tk_len b (e,i);rw [o] at a;have:=halfP_rng q;simp only [] at a;omega) (by have a:=tk_byt (n:=b) (s:=(e,i)) u.byt;rw [o] at a;exact a) (fun w h=>h.rows 0 rfl (byteF).size _) b3) ?_))
 rintro c7 c8 ⟨d,z,rfl,b4,b5,b6⟩
 refine Lo (Lw (Zag (TMs.cells dMs) b6 fun c9 d0 b7=>Lo (Dz (Zu 0 0 (TMs.cells d) b7 fun d1 a0=>Lz (Ls (Dz (Zgj [3] (Hla 0 0 0 121 (TMs.cells d) a0 Hz) (Zu 4 0 (TMs.cells d) a0 fun d2 a1=>Lz (Le (Dz (Zrv 4 (.bool ((z:Int) == 0)) a1 ?_)))))))))))
 have b8:=(((((a1.pl 3).pl 2).pl 4).pl 4).pl 4)
 exact⟨d,(decide (z=0)),a7,a8,a9,b0,(by rw [ib]),(carP_eq q o b4),b5,b2,(b8.dr 3)⟩
def QSr:List TMs→Asn
 | []=>St.nothing
 | m::l=>Asn.and (Sl m.bd.qa m.bd.qc 143 2 TPr.cells m.bd.ql) (QSr l)
def QS (l:List TMs):Asn:=QSr l.reverse
theorem QS_app (l:List TMs) (m:TMs):QS (l++[m])=Asn.and (Sl m.bd.qa m.bd.qc 143 2 TPr.cells m.bd.ql) (QS l):=by
 unfold QS
 rw [List.reverse_append]
 rfl
theorem QSr_rows {w:World}:∀ {l:List TMs},(QSr l).holds w→∀ m∈l,RowsAt w m.bd.qa m.bd.ql.length 2 (fun j=>TPr.cells (m.bd.ql.getD j dPr))
 | [],_,m,hm=>by cases hm
 | a::l,h,m,hm=>by
  rcases List.mem_cons.1 hm with rfl|hm
  ·exact Sl.rows dPrF.size h.1 dPr
  ·exact QSr_rows h.2.1 m hm
theorem QS_rows {w:World}{l:List TMs}(h:(QS l).holds w){k:Nat}(hk:k<l.length):RowsAt w (l.getD k dMs).bd.qa (l.getD k dMs).bd.ql.length 2 (fun j=>TPr.cells ((l.getD k dMs).bd.ql.getD j dPr)) :=
 QSr_rows h _ (List.mem_reverse.2 (getD_mem (d:=dMs) hk))
theorem pkSet {fr tw:Int}{ma:Option Addr}{mc:Nat}{ml:List TMs}(f:Nat→Int){k:Nat}(hk:k<11):splice (TPk.cells ⟨fr,tw,vecF f k,ma,mc,ml⟩) (2+k) [.int .u64 (f k)]=TPk.cells ⟨fr,tw,vecF f (k+1),ma,mc,ml⟩ :=
 match k,hk with
 | 0,_=>by kernel_rfl
 | 1,_=>by kernel_rfl
 | 2,_=>by kernel_rfl
 | 3,_=>by kernel_rfl
 | 4,_=>by kernel_rfl
 | 5,_=>by kernel_rfl
 | 6,_=>by kernel_rfl
 | 7,_=>by kernel_rfl
 | 8,_=>by kernel_rfl
 | 9,_=>by kernel_rfl
 | 10,_=>by kernel_rfl
 | n+11,h=>by omega
def conP (p:TPk):TPk:=⟨p.fr,p.tw,p.kn,none,0,p.ml.map conM⟩
def msP:Nat→CS→List TMs→List TMs×Bool×CS
 | 0,s,l=>(l,true,s)
 | n+1,s,l=>if (carP s).2.1=false then (l,false,(carP s).2.2) else msP n (carP s).2.2 (l++[(carP s).1])
def packP (s:CS):TPk×Bool×CS :=
 let f:=byteP s
 let t:=byteP f.2
 let n:=byteP (stW t.2 11)
 let q:=msP n.1.toNat n.2 []
 (⟨f.1,t.1,vecF (valW t.2) 11,none,0,q.1⟩,q.2.1,q.2.2)
theorem packP_eq {s s1 s2 s3 s4:CS}{a b:Int}{n:Nat}{l:List TMs}{ok:Bool}(h1:byteP s=(a,s1)) (h2:byteP s1=(b,s2)) (h3:byteP (stW s2 11)=((n:Int),s3)) (h4:msP n s3 []=(l,ok,s4)):packP s=(⟨a,b,vecF (valW s2) 11,none,0,l⟩,ok,s4):=by
 unfold packP
 simp only [h1,h2,h3,Int.toNat_natCast,h4]
theorem msP_bad {n:Nat}{s s1:CS}{l:List TMs}{m:TMs}(h:carP s=(m,false,s1)):msP (n+1) s l=(l,false,s1):=by
 show(if (carP s).2.1=false then (l,false,(carP s).2.2) else _)=_
 rw [if_pos (by rw [h]),h]
theorem msP_step {n:Nat}{s s1:CS}{l:List TMs}{m:TMs}(h:carP s=(m,true,s1)):msP (n+1) s l=msP n s1 (l++[m]):=by
 show(if (carP s).2.1=false then _ else msP n (carP s).2.2 (l++[(carP s).1]))=_
 rw [if_neg (by rw [h];simp),h]
theorem packet_spec (Q) (r) (sp) (hQ:∀ w,St w0 L w→Q.holds w) (hq:CutOK Q az r cz) (hs:St w0 ((Cel c #[.slice az r.length cz,.bool sp] 150)::L) w):Cs Tryz.prog 82 #[zP c 0] w fun rv w'=>∃ pp2 bb2 rr2 sp2 az2 cz2,rv=.tuple #[.agg (TPk.cells pp2),.bool bb2]∧packP (r,sp)=(conP pp2,bb2,(rr2,sp2))∧(∀ x∈pp2.kn.toList,0≤x∧x≤18446744073709551615)∧(∀ m∈pp2.ml,MsOK m)∧CutOK Q az2 rr2 cz2∧St w0 ((Sl pp2.ma pp2.mc 63 121 TMs.cells pp2.ml)::(QS pp2.ml)::(Cel c #[.slice az2 rr2.length cz2,.bool sp2] 150)::L) w':=by
 refine Zen Tryz.func82 Tryz.ntmps82 (En (Ls (Lg [0] (Dz (Zag (TPk.cells dPk) hs fun b1 w2 d6=>Lz (Ls (Lg [1,4,7,9] (Lw (Zc (cutByte_spec Q r sp (fun w h=>hQ w (h.drop 1)) hq (d6.pl 1)) ?_)))))))))
 rintro j0 j1 ⟨i,d8,d9,j2,j3,rfl,b7,j4,e0,e1⟩
 refine Zoj (Hwi 2 i Hz) (Zc (cutByte_spec Q d8 d9 (fun w h=>hQ w (h.drop 1)) e0 e1) ?_)
 rintro j5 j6 ⟨o,a,d,b8,b9,rfl,c0,j7,e2,e3⟩
 refine Zoj (Hwi 5 o Hz) (Zu 1 0 (TPk.cells (⟨i,0,dVc,none,0,[]⟩:TPk)) e3 fun j8 e4=>Lo (Lw (Zu 1 1 (TPk.cells (⟨i,o,dVc,none,0,[]⟩:TPk)) e4 fun e5 e6=>Lo (Ld (Lt (Ls (Lq (Lb (Dz ?_)))))))))
 have e7:St w0 ((Cel c #[.slice b8 a.length b9,.bool d] 150)::(Cel b1 (TPk.cells (⟨i,o,(vecF (valW (a,d)) 0),none,0,[]⟩:TPk)) 42)::L) e5:=(by rw [vec_z];exact e6)
 refine GoC.loop (T:=Nat×(List Int)×Bool×(Option Addr)×Nat) (fun gg=>[(0,zP c 0),(2,zP b1 0),(3,.bool false),(16,.int .i64 (gg.1:Nat))]) (fun gg w=>(gg.1≤11∧(gg.2.1,gg.2.2.1)=stW (a,d) gg.1∧CutOK Q gg.2.2.2.1 gg.2.1 gg.2.2.2.2)∧St w0 ((Cel c #[.slice gg.2.2.2.1 gg.2.1.length gg.2.2.2.2,.bool gg.2.2.1] 150)::(Cel b1 (TPk.cells (⟨i,o,(vecF (valW (a,d)) gg.1),none,0,[]⟩:TPk)) 42)::L) w) (fun gg=>11-gg.1) (0,a,d,b8,b9) [0,2,3,16] (by kernel_rfl) ⟨⟨Nat.zero_le _,rfl,e2⟩,e7⟩ ?_
 rintro⟨kk,c1,c2,j9,k0⟩ k1 ⟨hp,b4⟩
 dsimp only at hp b4
 refine En (Lq (Ls (Dz (Zi ((kk:Int)<11) (fun e8=>?_) (fun e8=>?_)))))
 ·have hk:kk<11:=by omega
  refine En (Lk (Lt (Ls (Lb (Lq (Lg [2,5] (Lw (Zc (cutWord_spec Q c1 c2 (fun w h=>hQ w (h.drop 1)) hp.2.2 b4) ?_))))))))
  rintro k2 k3 ⟨c3,c4,c5,c6,c7,rfl,c8,k4,e9,f0⟩
  refine Zoj (Hx 4 (kk:Int) (11:Int) b1 2 1 Hz) ?_
  have hvk:valW (a,d) kk=c3:=by show(wordP (stW _ kk)).1=_;rw [← hp.2.1,c8]
  exact GoR.store rfl rfl (by kernel_rfl) (b:=b1) (off:=2+(kk*1)) (v:=.int .u64 c3) (by kernel_rfl) (by kernel_rfl) (ti:=Tryz.t29) (by kernel_rfl) f0 1 rfl (by kernel_rfl) (by kernel_rfl) (by show 2+(kk*1)+1≤14;omega) (cs':=TPk.cells (⟨i,o,(vecF (valW (a,d)) (kk+1)),none,0,[]⟩:TPk)) (L':=(Cel c #[.slice c6 c4.length c7,.bool c5] 150)::(Cel b1 (TPk.cells (⟨i,o,(vecF (valW (a,d)) (kk+1)),none,0,[]⟩:TPk)) 42)::L) (by rw [Nat.mul_one,← hvk];exact pkSet _ hk) rfl fun k5 f1=>Lo (Ld (Lm (Lt (Dz (Zaj (Hwi 0 ((kk:Nat)+1) Hz) (GoQ.back (kk+1,c4,c5,c6,c7) [0,2,3,16] (by kernel_rfl) (by show 11-(kk+1)<11-kk;omega) ⟨⟨by omega,by show _=(wordP (stW _ kk)).2;rw [← hp.2.1,c8],e9⟩,f1⟩))))))
 ·have hke:kk=11:=by omega
  subst hke
  have hst:=hp.2.1
  refine En (Lx (LsC (LsL (Lh (Lt (Ls (Ls (Lg [1] (Lw (Zqa (f:=45) (args:=#[zP c 0]) Tryz.call45 (cutByteN_spec Q c1 c2 (fun w h=>hQ w (h.drop 1)) hp.2.2 b4) ?_))))))))))
  rintro k6 f2 ⟨c9,b5,b6,d0,d1,rfl,a5,f3,f4⟩
  refine Lz (Lb (Dz ?_))
  have f5:=St.slNil f4 63 121 TMs.cells
  have f6:=St.addNothing f5
  have f7:=((((f6.pl 2).pl 3).pl 2).pl 3)
  have f8:St w0 ((Sl none 0 63 121 TMs.cells ([]:List TMs))::(QS ([]:List TMs))::(Cel b1 (TPk.cells (⟨i,o,(vecF (valW (a,d)) 11),none,0,([]:List TMs)⟩:TPk)) 42)::(Cel c #[.slice d0 b5.length d1,.bool b6] 150)::L) f2:=f7
  refine GoC.loop (T:=Nat×(List Int)×Bool×(Option Addr)×Nat×(Option Addr)×Nat×(List TMs)) (fun gg=>[(0,zP c 0),(2,zP b1 0),(5,.int .u8 (gg.1:Nat))]) (fun gg w=>(gg.1≤255∧msP c9 (b5,b6) []=msP gg.1 (gg.2.1,gg.2.2.1) (gg.2.2.2.2.2.2.2.map conM)∧CutOK Q gg.2.2.2.1 gg.2.1 gg.2.2.2.2.1∧(∀ m∈gg.2.2.2.2.2.2.2,MsOK m)∧gg.2.2.2.2.2.2.2.length+gg.1≤255)∧St w0 ((Sl gg.2.2.2.2.2.1 gg.2.2.2.2.2.2.1 63 121 TMs.cells gg.2.2.2.2.2.2.2)::(QS gg.2.2.2.2.2.2.2)::(Cel b1 (TPk.cells (⟨i,o,(vecF (valW (a,d)) 11),gg.2.2.2.2.2.1,gg.2.2.2.2.2.2.1,gg.2.2.2.2.2.2.2⟩:TPk)) 42)::(Cel c #[.slice gg.2.2.2.1 gg.2.1.length gg.2.2.2.2.1,.bool gg.2.2.1] 150)::L) w) (fun gg=>gg.1) (c9,b5,b6,d0,d1,none,0,([]:List TMs)) [0,2,5] (by kernel_rfl) ⟨⟨by have:=a5.2;omega,rfl,f3,fun m hm=>(by cases hm),by have:=a5.2;simp only [lN];omega⟩,f8⟩ ?_
  rintro⟨n2,rr2,sp2,az2,cz2,a0,a1,q⟩ k7 ⟨hp,a6⟩
  dsimp only at hp a6
  refine En (Ls (Lq (Dz (Zi ((n2:Int)>0) (fun f9=>?_) (fun f9=>?_)))))
  ·obtain⟨n1,rfl⟩:∃ m,n2=m+1:=⟨n2-1,by omega⟩
   refine En (Lk (Lt (Ls (Lb (Ls (Lg [1,5,6] (Lw (Zc (carried_spec Q rr2 sp2 (fun w h=>hQ w (h.drop 3)) hp.2.2.1 (a6.pl 3)) ?_))))))))
   rintro k8 k9 ⟨u,a2,a7,a8,a9,b0,rfl,d2,g5,d3,g7⟩
   refine Lo (Lw (Zag (TMs.cells dMs) g7 fun g8 l0 g9=>Lo (Dz (Zu 0 0 (TMs.cells u) g9 fun l1 a3=>Lz (Ls (Lq (Dz (Zqc (t:=!a2) (fun a4=>?_) (fun a4=>?_)))))))))
   ·refine Zs (Zgj [1] (Hla 0 5 0 14 (TPk.cells (⟨i,o,(vecF (valW (a,d)) 11),a0,a1,q⟩:TPk)) a3 Hz) (Zu 5 0 (TPk.cells (⟨i,o,(vecF (valW (a,d)) 11),a0,a1,q⟩:TPk)) a3 fun l2 d4=>Lz (Le (Ly (Ll (Ly (LsR (Ll (Ly (Dz (Zrv 5 (.bool false) d4 ?_)))))))))))
    have h1:=((((((d4.pl 2).pl 4).pl 4).pl 5).pl 5).pl 5)
    exact⟨(⟨i,o,(vecF (valW (a,d)) 11),a0,a1,q⟩:TPk),false,a7,a8,a9,b0,rfl,(packP_eq b7 c0 (by rw [← hst];exact a5.1) (hp.2.1.trans (msP_bad ((show a2=false from by simpa using a4)▸d2)))),(vecF_all _ 0 (fun k hk=>by have:=wordP_rng (s:=stW (a,d) k) (v:=valW (a,d) k) (s2:=(wordP (stW (a,d) k)).2) rfl;omega)),hp.2.2.2.1,d3,(h1.dr 3)⟩
   ·refine Zk (Zt (Zgj [3,4,6] (Hl 1 5 13 a3 (Hla 2 0 0 121 (TMs.cells u) a3 Hz)) (GoR.sliceLit rfl (by kernel_rfl) (t:=40) (e:=63) (n:=1) (ps:=[(0,.agg (TMs.cells u))]) (by kernel_rfl) (by kernel_rfl) (ti:=Tryz.t63) (z:=.agg (TMs.cells dMs)) (by kernel_rfl) (by kernel_rfl) (by decide) (by decide) (cs:=TMs.cells u) (by kernel_rfl) a3 fun h3 h4 h5 h6=>?_)))
    have h7:St w0 ((Sl (some ⟨h3,0,none⟩) 1 63 121 TMs.cells ([(u:TMs)]))::(Cel g8 (TMs.cells u) 63)::(Sl u.bd.qa u.bd.qc 143 2 TPr.cells u.bd.ql)::(Cel c #[.slice a9 a7.length b0,.bool a8] 150)::(Sl a0 a1 63 121 TMs.cells q)::(QS q)::(Cel b1 (TPk.cells (⟨i,o,(vecF (valW (a,d)) 11),a0,a1,q⟩:TPk)) 42)::L) h4:=St.slOf (l:=[(u:TMs)]) (f:=TMs.cells) h5 h6 (dMsF).size (by simp only [lC,lN,maxLen];omega) (by kernel_rfl)
    refine Lo (Dz (Zap mssOK2 dMsF dMs (h7.pl 4) (by simp only [lA,lC,lN,List.length_map] at *;omega) fun b2 b3 l3 i0=>Lo (Lw (Zu 6 13 (TPk.cells (⟨i,o,(vecF (valW (a,d)) 11),b2,b3,(q++([(u:TMs)]))⟩:TPk)) i0 fun i1 i2=>Lo (Ld (Lm (Lt (Dz (Zaj (Hg 1 (.as_ (.int .u8 (n1:Nat)) (.gen [])) [.prop (Value.int .u8 (IntKind.u8.wrap (((n1+1):Nat)-1))=Value.int .u8 (n1:Nat))] (okp (u8dec (by omega)) ok0) Hz) ?_)))))))))
    have i3:=(((((((i2.pl 4).pl 6).pl 2).pl 6).pl 6).pl 6).pl 6)
    have i4:=i3.dr 2
    have i5:St w0 ((QS (q++[u]))::(Sl b2 b3 63 121 TMs.cells (q++([(u:TMs)])))::(Cel b1 (TPk.cells (⟨i,o,(vecF (valW (a,d)) 11),b2,b3,(q++([(u:TMs)]))⟩:TPk)) 42)::(Cel c #[.slice a9 a7.length b0,.bool a8] 150)::L) i1:=by rw [QS_app];exact St.join i4
    exact GoQ.back (n1,a7,a8,a9,b0,b2,b3,(q++[u])) [0,2,5] (by kernel_rfl) (by show n1<(n1+1);omega) ⟨⟨by omega,by rw [hp.2.1,msP_step ((show a2=true from by simpa using a4)▸d2),List.map_append];rfl,d3,fun m hm=>(List.mem_append.1 hm).elim (hp.2.2.2.1 m) (fun h9=>by rw [List.mem_singleton.1 h9];exact g5),by show(q++[_]).length+n1≤255;have:=hp.2.2.2.2;simp only [lA,lC,lN];omega⟩,((((i5.pl 3).pl 3).pl 2).pl 3)⟩
  ·have i7:n2=0:=by omega
   subst i7
   refine Zx (GoQ.skipC (GoQ.skipL (GoQ.hit (Zt (Zs (Zgj [1] (Hla 0 2 0 14 (TPk.cells (⟨i,o,(vecF (valW (a,d)) 11),a0,a1,q⟩:TPk)) a6 Hz) (Zu 2 0 (TPk.cells (⟨i,o,(vecF (valW (a,d)) 11),a0,a1,q⟩:TPk)) a6 fun l4 d5=>Lz (Le (Dz (Zrv 2 (.bool true) d5 ?_))))))))))
   have i8:=((((d5.pl 3).pl 2).pl 2).pl 3)
   exact⟨(⟨i,o,(vecF (valW (a,d)) 11),a0,a1,q⟩:TPk),true,rr2,sp2,az2,cz2,rfl,(packP_eq b7 c0 (by rw [← hst];exact a5.1) (hp.2.1.trans rfl)),(vecF_all _ 0 (fun k hk=>by have:=wordP_rng (s:=stW (a,d) k) (v:=valW (a,d) k) (s2:=(wordP (stW (a,d) k)).2) rfl;omega)),hp.2.2.2.1,hp.2.2.1,(i8.dr 1)⟩
end
section
variable {w0 w : World} {L : List Asn} {ad : Option Addr} {cb : Nat}
def numQ (w:Int):Int:=IntKind.i64.wrap (IntKind.u64.wrap (w-1))
theorem i64wrap_rng (w:Int):-9223372036854775808≤IntKind.i64.wrap w∧IntKind.i64.wrap w≤9223372036854775807:=by
 rw [IntKind.wrap_i64];omega
def conS (s:TSt):TSt:=⟨s.dw,s.cl,s.wh,s.j,s.k,s.n,s.op,con s.bd,conP s.pk,s.tm,s.re,s.at_,none,0,s.pl⟩
structure HdP where
 s:TSt
 c:CS
def hdP (b:List Int):HdP :=
 let a:=byteP (b,false)
 let w1:=wordP a.2
 let w2:=wordP w1.2
 let w3:=wordP w2.2
 let w4:=wordP w3.2
 let w5:=wordP w4.2
 let k:=byteP w5.2
 let am:=wordP k.2
 let t1:=textP 255 am.2
 let t2:=textP 255 t1.2
 let t3:=textP 255 t2.2
 let t4:=textP 255 t3.2
 let tm:=wordP t4.2
 let at_:=wordP tm.2
 let er:=byteP at_.2
 let vl:=textP 255 er.2
 let pn:=byteP vl.2
 let pk:=tk pn.1.toNat pn.2
 ⟨⟨a.1,numQ w1.1,numQ w2.1,numQ w3.1,numQ w4.1,numQ w5.1,⟨k.1,t1.1,t2.1,t3.1,t4.1,am.1⟩,dBd,dPk,tm.1,⟨er.1,vl.1⟩,at_.1,none,0,pk.1⟩,pk.2⟩
def tlP (h:HdP):TSt×Bool×CS :=
 if h.s.dw=14 then
  let m:=carP h.c
  ({ h.s with bd:=m.1.bd },m.2.1,m.2.2)
 else if h.s.dw=16 then
  let p:=packP h.c
  ({ h.s with pk:=p.1 },p.2.1,p.2.2)
 else (h.s,true,h.c)
def finT (b:List Int) (r:TSt×Bool×CS):TSt×Int :=
 if r.2.1=false then (dSt,5) else if r.2.2.2=true then (dSt,5) else if r.2.2.1.length>0 then (dSt,5) else if mayS r.1=false then (dSt,5) else if putS r.1=b then (r.1,0) else (dSt,5)
def getT (b:List Int):TSt×Int:=finT b (tlP (hdP b))
theorem tlP_14 {h:HdP}{m:TMs}{ok:Bool}{c:CS}(hd:h.s.dw=14) (hc:carP h.c=(m,ok,c)):tlP h=({ h.s with bd:=m.bd },ok,c):=by
 unfold tlP
 rw [if_pos hd]
 simp only [hc]
theorem tlP_16 {h:HdP}{p:TPk}{ok:Bool}{c:CS}(hd:h.s.dw=16) (hc:packP h.c=(p,ok,c)):tlP h=({ h.s with pk:=p },ok,c):=by
 unfold tlP
 rw [if_neg (by omega),if_pos hd]
 simp only [hc]
theorem tlP_0 {h:HdP}(h1:¬ h.s.dw=14) (h2:¬ h.s.dw=16):tlP h=(h.s,true,h.c):=by
 unfold tlP
 rw [if_neg h1,if_neg h2]
theorem putM_byt {m:TMs}(h:MsOK m):Byt (putM m):=by
 unfold putM
 split
 ·exact Byt.app (Byt.app (Byt.app Byt.nil (wd_byt _)) (tgB_byt h)) h.tg
 ·exact Byt.nil
theorem loS_byt {y:List Int}(h:Byt y):Byt (loS y):=Byt.app (fun z hz=>by
 rcases List.mem_cons.1 hz with rfl|hz
 ·exact u8wrap_b _
 ·rw [List.mem_singleton.1 hz];exact u8wrap_b _) h
theorem flat_byt {α:Type}{f:α→List Int}{l:List α}(h:∀ x∈l,Byt (f x)):Byt (l.flatMap f):=fun z hz=>by
 obtain⟨y,hy,hz⟩:=List.mem_flatMap.1 hz
 exact h y hy z hz
theorem putS_byt {s:TSt}(h:StOK s) (hm:∀ m∈s.pk.ml,MsOK m):Byt (putS s):=by
 unfold putS
 split
 ·rename_i hb
  obtain⟨f,i,o,q,u,w,q7,q8,q9,a0,a1,a2,a3,a4,a,a5⟩:=mayS_in hb
  have e0:=h.kd
  have b:Byt (h1S s):=Byt.app (Byt.app (Byt.app (Byt.app (Byt.app (Byt.one (by omega)) (wd_byt _)) (wd_byt _)) (wd_byt _)) (wd_byt _)) (wd_byt _)
  have d:Byt (h2S s):=Byt.app (Byt.app (Byt.app (Byt.app (Byt.app (Byt.app b (Byt.one (by omega))) (wd_byt _)) (tx_byt _)) (tx_byt _)) (tx_byt _)) (tx_byt _)
  refine Byt.app (Byt.app (Byt.app (Byt.app (Byt.app (Byt.app (Byt.app d (wd_byt _)) (wd_byt _)) (Byt.one (by omega))) (tx_byt _)) (Byt.one (by omega))) h.pl) ?_
  unfold tlS
  split
  ·exact loS_byt (putM_byt (car_ok h.bd))
  ·split
   ·rename_i e
    obtain⟨p1,p2,p3,p4⟩:=packedB_in (a e).2
    refine Byt.app (fun z hz=>?_) (Byt.app (flat_byt fun x hx=>wd_byt _) (Byt.app (Byt.one (by omega)) (flat_byt fun m hx=>loS_byt (putM_byt (hm m hx)))))
    rcases List.mem_cons.1 hz with rfl|hz
    ·omega
    ·rw [List.mem_singleton.1 hz];omega
   ·exact Byt.nil
 ·exact Byt.nil
theorem mayS_con (s:TSt):mayS (conS s)=mayS s:=by
 have h:((s.pk.ml.map conM).any fun m=>!mayM m)=s.pk.ml.any fun m=>!mayM m:=by
  rw [List.any_map]
  rfl
 have e:packedB (conP s.pk)=packedB s.pk:=by
  show(if _=true then (if _=true then (if decide (((s.pk.ml.map conM).length:Int)≤8)=true then !((s.pk.ml.map conM).any fun m=>!mayM m) else false) else false) else false)=_
  rw [h,List.length_map]
  rfl
 have a:emptyB (conP s.pk)=emptyB s.pk:=by
  show(if _=true then (if _=true then (if _=true then ((s.pk.ml.map conM).length:Int) == 0 else false) else false) else false)=_
  rw [List.length_map]
  rfl
 unfold mayS
 show(if _=true then false else if _=true then false else if _=true then false else if _=true then false else if _=true then false else if _=true then false else if _=true then false else if _=true then false else if _=true then false else if _=true then false else if _=true then false else if _=true then false else if _=true then false else if _=true then false else if _=true then (if _=true then emptyB (conP s.pk) else false) else if _=true then (if _=true then packedB (conP s.pk) else false) else if _=true then emptyB (conP s.pk) else false)=_
 rw [e,a]
 rfl
theorem putS_con (s:TSt):putS (conS s)=putS s:=by
 have e:pkB (conP s.pk)=pkB s.pk:=by
  unfold pkB
  show _++(_++([((((s.pk.ml.map conM).length:Nat)):Int)]++(s.pk.ml.map conM).flatMap _))=_
  rw [List.length_map,List.flatMap_map]
  rfl
 have a:putM (conM ⟨1,1,dVc,s.bd,dD32⟩)=putM ⟨1,1,dVc,s.bd,dD32⟩:=rfl
 have b:tlS (conS s)=tlS s:=by
  unfold tlS
  show(if s.dw=14 then loS (putM (conM ⟨1,1,dVc,s.bd,dD32⟩)) else if s.dw=16 then pkB (conP s.pk) else [])=_
  rw [e,a]
 have d:hdS (conS s)=hdS s:=rfl
 unfold putS
 rw [mayS_con,b,d]
theorem dBd_ok:BdOK dBd:=⟨by decide,by decide,by decide,dRq_ok,(fun p hp=>by cases hp),dD32_ok,Nat.zero_le _⟩
theorem dVc_ok:∀ x∈dVc.toList,0≤x∧x≤18446744073709551615:=by decide
theorem dSt_ok:StOK dSt:=⟨by decide,by decide,by decide,by decide,by decide,by decide,by decide,by decide,dBd_ok,dVc_ok,by decide,by decide,(fun z hz=>by cases hz),fun _=>rfl⟩
set_option maxHeartbeats 16000000 in
theorem getT_spec (b) (hsome:Som ad cb) (hbl:b.length≤100000) (hbb:∀ z∈b,0≤z∧z<256) (hr:Rw w0 L byteC 1 0 ad b) (hs:St w0 (L) w):Cs Tryz.prog 47 #[.slice ad b.length cb] w fun rv w'=>∃ xx2 ee2,rv=.tuple #[.agg (TSt.cells xx2),.int .i64 ee2]∧getT b=(conS xx2,ee2)∧StOK xx2∧(∀ m∈xx2.pk.ml,MsOK m)∧St w0 ((Sl xx2.pa xx2.pc 5 1 byteC xx2.pl)::(Sl xx2.bd.qa xx2.bd.qc 143 2 TPr.cells xx2.bd.ql)::(Sl xx2.pk.ma xx2.pk.mc 63 121 TMs.cells xx2.pk.ml)::(QS xx2.pk.ml)::L) w':=by
 refine Zen Tryz.func47 Tryz.ntmps47 (En (Ls (Lg [0] (Dz (Zag (TSt.cells dSt) hs fun b1 w2 i2=>Lz (Ls (Lg [1] (Lw (Zc (cutNew_spec b (by omega) (by first|assumption|omega) (fun w h=>hr _ (h.drop 1)) i2) ?_)))))))))
 rintro v8 w9 ⟨b8,i,o,rfl,e8⟩
 have i3:CutOK (Sl i o 5 1 byteC b) i b o:=CutOK.new e8 (j:=1) rfl hbb (by omega)
 refine Lz (Ls (Lg [1,3,4] (Lw (Zc (cutByte_spec (Sl i o 5 1 byteC b) b false (fun w h=>h.at_ 0 rfl) i3 e8) ?_))))
 rintro z7 z8 ⟨e,i4,i5,z9,aa,rfl,i6,ab,i7,i8⟩
 refine Lo (Lw (Zag (TSt.cells dSt) i8 fun a ae i9=>Lo (Dz (Zu 0 0 (TSt.cells (⟨e,0,0,0,0,0,dOp,dBd,dPk,0,dRe,0,none,0,[]⟩:TSt)) i9 fun af j0=>Lo (Ld (Lt (Ls (Ls (Lg [0] (Dz (Zqa (f:=51) (args:=#[zP a 0]) Tryz.call51 (numbers_spec j0) ?_)))))))))))
 rintro ag ah ⟨b6,rfl,e9⟩
 refine Lz (Lb (Dz (GoC.unroll 6 (En (Lq (Ls (LT (Lk (Lt (Ls (Lb (Ls (Dz (Zaj (Hx 0 (0:Int) (5:Int) b6 0 1 (Hl 1 0 0 e9 Hz)) (En (Lt (Lg [2,6] (Lw (Zc (cutWord_spec (Sl i o 5 1 byteC b) i4 i5 (fun w h=>h.at_ 2 rfl) i7 (e9.pl 2)) ?_)))))))))))))))))))
 rintro ai aj ⟨q,j2,j3,al,an,rfl,j4,ao,j5,j6⟩
 refine Lo (Lw (Zu 2 1 (TSt.cells (⟨e,IntKind.i64.wrap (IntKind.u64.wrap (q-1)),0,0,0,0,dOp,dBd,dPk,0,dRe,0,none,0,[]⟩:TSt)) j6 fun ap f0=>Lo (Ld (Lm (Lt (La (Dz (GoQ.again (En (Lq (Ls (LT (Lk (Lt (Ls (Lb (Ls (Dz (Zaj (Hx 0 (1:Int) (5:Int) b6 0 1 (Hl 1 1 1 f0 Hz)) (En (Lt (Lg [2,6] (Lw (Zc (cutWord_spec (Sl i o 5 1 byteC b) j2 j3 (fun w h=>h.at_ 2 rfl) j5 f0) ?_))))))))))))))))))))))))
 rintro aq ar ⟨u,j7,j8,au,av,rfl,j9,aw,k0,k1⟩
 refine Lo (Lw (Zu 2 2 (TSt.cells (⟨e,IntKind.i64.wrap (IntKind.u64.wrap (q-1)),IntKind.i64.wrap (IntKind.u64.wrap (u-1)),0,0,0,dOp,dBd,dPk,0,dRe,0,none,0,[]⟩:TSt)) k1 fun ax f1=>Lo (Ld (Lm (Lt (La (Dz (GoQ.again (En (Lq (Ls (LT (Lk (Lt (Ls (Lb (Ls (Dz (Zaj (Hx 0 (2:Int) (5:Int) b6 0 1 (Hl 1 1 2 f1 Hz)) (En (Lt (Lg [2,6] (Lw (Zc (cutWord_spec (Sl i o 5 1 byteC b) j7 j8 (fun w h=>h.at_ 2 rfl) k0 f1) ?_))))))))))))))))))))))))
 rintro ay az ⟨x,k2,k3,ba,bb,rfl,k4,bc,k5,k6⟩
 refine Lo (Lw (Zu 2 3 (TSt.cells (⟨e,IntKind.i64.wrap (IntKind.u64.wrap (q-1)),IntKind.i64.wrap (IntKind.u64.wrap (u-1)),IntKind.i64.wrap (IntKind.u64.wrap (x-1)),0,0,dOp,dBd,dPk,0,dRe,0,none,0,[]⟩:TSt)) k6 fun be f2=>Lo (Ld (Lm (Lt (La (Dz (GoQ.again (En (Lq (Ls (LT (Lk (Lt (Ls (Lb (Ls (Dz (Zaj (Hx 0 (3:Int) (5:Int) b6 0 1 (Hl 1 1 3 f2 Hz)) (En (Lt (Lg [2,6] (Lw (Zc (cutWord_spec (Sl i o 5 1 byteC b) k2 k3 (fun w h=>h.at_ 2 rfl) k5 f2) ?_))))))))))))))))))))))))
 rintro bf bg ⟨a0,k7,k8,bh,bi,rfl,k9,bj,l0,l1⟩
 refine Lo (Lw (Zu 2 4 (TSt.cells (⟨e,IntKind.i64.wrap (IntKind.u64.wrap (q-1)),IntKind.i64.wrap (IntKind.u64.wrap (u-1)),IntKind.i64.wrap (IntKind.u64.wrap (x-1)),IntKind.i64.wrap (IntKind.u64.wrap (a0-1)),0,dOp,dBd,dPk,0,dRe,0,none,0,[]⟩:TSt)) l1 fun bk f3=>Lo (Ld (Lm (Lt (La (Dz (GoQ.again (En (Lq (Ls (LT (Lk (Lt (Ls (Lb (Ls (Dz (Zaj (Hx 0 (4:Int) (5:Int) b6 0 1 (Hl 1 1 4 f3 Hz)) (En (Lt (Lg [2,6] (Lw (Zc (cutWord_spec (Sl i o 5 1 byteC b) k7 k8 (fun w h=>h.at_ 2 rfl) l0 f3) ?_))))))))))))))))))))))))
 rintro bm bn ⟨a1,l2,l3,bo,bp,rfl,l4,bq,l5,l6⟩
 refine Lo (Lw (Zu 2 5 (TSt.cells (⟨e,IntKind.i64.wrap (IntKind.u64.wrap (q-1)),IntKind.i64.wrap (IntKind.u64.wrap (u-1)),IntKind.i64.wrap (IntKind.u64.wrap (x-1)),IntKind.i64.wrap (IntKind.u64.wrap (a0-1)),IntKind.i64.wrap (IntKind.u64.wrap (a1-1)),dOp,dBd,dPk,0,dRe,0,none,0,[]⟩:TSt)) l6 fun br l7=>Lo (Ld (Lm (Lt (La (Dz (GoQ.again (En (Lq (Ls (LF (Lx (LsC (LsL (Lh (Lt (Ls (Lg [1,3,6,9] (Lw (Zc (cutByte_spec (Sl i o 5 1 byteC b) l2 l3 (fun w h=>h.at_ 2 rfl) l5 l7) ?_)))))))))))))))))))))
 rintro bs bt ⟨a2,l8,l9,bu,bv,rfl,m0,bw,m1,m2⟩
 refine Lo (Lw (Zc (cutWord_spec (Sl i o 5 1 byteC b) l8 l9 (fun w h=>h.at_ 2 rfl) m1 m2) ?_))
 rintro bx bz ⟨a3,m3,m4,ca,cc,rfl,m5,cd,m6,m7⟩
 refine Lo (Lw (Zu 2 6 (TSt.cells (⟨e,IntKind.i64.wrap (IntKind.u64.wrap (q-1)),IntKind.i64.wrap (IntKind.u64.wrap (u-1)),IntKind.i64.wrap (IntKind.u64.wrap (x-1)),IntKind.i64.wrap (IntKind.u64.wrap (a0-1)),IntKind.i64.wrap (IntKind.u64.wrap (a1-1)),(⟨a2,(⟨#[]⟩:ByteArray),(⟨#[]⟩:ByteArray),(⟨#[]⟩:ByteArray),(⟨#[]⟩:ByteArray),0⟩:TOp),dBd,dPk,0,dRe,0,none,0,[]⟩:TSt)) m7 fun ce m8=>Lo (Lw (Zu 2 11 (TSt.cells (⟨e,IntKind.i64.wrap (IntKind.u64.wrap (q-1)),IntKind.i64.wrap (IntKind.u64.wrap (u-1)),IntKind.i64.wrap (IntKind.u64.wrap (x-1)),IntKind.i64.wrap (IntKind.u64.wrap (a0-1)),IntKind.i64.wrap (IntKind.u64.wrap (a1-1)),(⟨a2,(⟨#[]⟩:ByteArray),(⟨#[]⟩:ByteArray),(⟨#[]⟩:ByteArray),(⟨#[]⟩:ByteArray),a3⟩:TOp),dBd,dPk,0,dRe,0,none,0,[]⟩:TSt)) m8 fun cf m9=>Lo (Ld (Lt (Ls (Ls (Lg [1] (Lw (Zqa (f:=53) (args:=#[zP a 6]) Tryz.call53 (texts_spec m9) ?_)))))))))))
 rintro ch ci ⟨a8,rfl,f4⟩
 refine Lz (Lb (Dz (GoC.unroll 6 (En (Lq (Ls (LT (Lk (Lt (Ls (Lb (Ls (Dz (Zaj (Hx 0 (0:Int) (4:Int) a8 0 1 (Hg 1 (.gen [zP a 7]) [.cell ⟨a8,0,none⟩ (zP a 7)] (okc (RowsAt.at0 (f4.rows 0 rfl (ptF).size ((0,0):Nat×Nat)) (k:=0) (by first|omega|(simp only [List.length_set];omega)|(simp only [List.length_set,lA,lC,lN];omega)) (j:=0) (by decide) (by kernel_rfl)) ok0) Hz)) (En (Lt (Lg [2,4] (Lw (Zc (cutText_spec (Sl i o 5 1 byteC b) m3 m4 255 (fun w h=>h.at_ 3 rfl) m6 (f4.pl 1)) ?_)))))))))))))))))))
 rintro cj ck ⟨a4,n1,n2,cn,co,rfl,n3,n4,n5⟩
 refine Lo (Lw (Zu 3 7 (TSt.cells (⟨e,IntKind.i64.wrap (IntKind.u64.wrap (q-1)),IntKind.i64.wrap (IntKind.u64.wrap (u-1)),IntKind.i64.wrap (IntKind.u64.wrap (x-1)),IntKind.i64.wrap (IntKind.u64.wrap (a0-1)),IntKind.i64.wrap (IntKind.u64.wrap (a1-1)),(⟨a2,a4,(⟨#[]⟩:ByteArray),(⟨#[]⟩:ByteArray),(⟨#[]⟩:ByteArray),a3⟩:TOp),dBd,dPk,0,dRe,0,none,0,[]⟩:TSt)) n5 fun cq f5=>Lo (Ld (Lm (Lt (La (Dz (GoQ.again (En (Lq (Ls (LT (Lk (Lt (Ls (Lb (Ls (Dz (Zaj (Hx 0 (1:Int) (4:Int) a8 0 1 (Hg 1 (.gen [zP a 8]) [.cell ⟨a8,1,none⟩ (zP a 8)] (okc (RowsAt.at0 (f5.rows 1 rfl (ptF).size ((0,0):Nat×Nat)) (k:=1) (by first|omega|(simp only [List.length_set];omega)|(simp only [List.length_set,lA,lC,lN];omega)) (j:=0) (by decide) (by kernel_rfl)) ok0) Hz)) (En (Lt (Lg [2,4] (Lw (Zc (cutText_spec (Sl i o 5 1 byteC b) n1 n2 255 (fun w h=>h.at_ 3 rfl) n4 f5) ?_))))))))))))))))))))))))
 rintro cr cs ⟨a5,n6,n7,ct,cu,rfl,n8,n9,o0⟩
 refine Lo (Lw (Zu 3 8 (TSt.cells (⟨e,IntKind.i64.wrap (IntKind.u64.wrap (q-1)),IntKind.i64.wrap (IntKind.u64.wrap (u-1)),IntKind.i64.wrap (IntKind.u64.wrap (x-1)),IntKind.i64.wrap (IntKind.u64.wrap (a0-1)),IntKind.i64.wrap (IntKind.u64.wrap (a1-1)),(⟨a2,a4,a5,(⟨#[]⟩:ByteArray),(⟨#[]⟩:ByteArray),a3⟩:TOp),dBd,dPk,0,dRe,0,none,0,[]⟩:TSt)) o0 fun cv f6=>Lo (Ld (Lm (Lt (La (Dz (GoQ.again (En (Lq (Ls (LT (Lk (Lt (Ls (Lb (Ls (Dz (Zaj (Hx 0 (2:Int) (4:Int) a8 0 1 (Hg 1 (.gen [zP a 9]) [.cell ⟨a8,2,none⟩ (zP a 9)] (okc (RowsAt.at0 (f6.rows 1 rfl (ptF).size ((0,0):Nat×Nat)) (k:=2) (by first|omega|(simp only [List.length_set];omega)|(simp only [List.length_set,lA,lC,lN];omega)) (j:=0) (by decide) (by kernel_rfl)) ok0) Hz)) (En (Lt (Lg [2,4] (Lw (Zc (cutText_spec (Sl i o 5 1 byteC b) n6 n7 255 (fun w h=>h.at_ 3 rfl) n9 f6) ?_))))))))))))))))))))))))
 rintro cw cx ⟨a6,o1,o2,cy,cz,rfl,o3,o4,o5⟩
 refine Lo (Lw (Zu 3 9 (TSt.cells (⟨e,IntKind.i64.wrap (IntKind.u64.wrap (q-1)),IntKind.i64.wrap (IntKind.u64.wrap (u-1)),IntKind.i64.wrap (IntKind.u64.wrap (x-1)),IntKind.i64.wrap (IntKind.u64.wrap (a0-1)),IntKind.i64.wrap (IntKind.u64.wrap (a1-1)),(⟨a2,a4,a5,a6,(⟨#[]⟩:ByteArray),a3⟩:TOp),dBd,dPk,0,dRe,0,none,0,[]⟩:TSt)) o5 fun da f7=>Lo (Ld (Lm (Lt (La (Dz (GoQ.again (En (Lq (Ls (LT (Lk (Lt (Ls (Lb (Ls (Dz (Zaj (Hx 0 (3:Int) (4:Int) a8 0 1 (Hg 1 (.gen [zP a 10]) [.cell ⟨a8,3,none⟩ (zP a 10)] (okc (RowsAt.at0 (f7.rows 1 rfl (ptF).size ((0,0):Nat×Nat)) (k:=3) (by first|omega|(simp only [List.length_set];omega)|(simp only [List.length_set,lA,lC,lN];omega)) (j:=0) (by decide) (by kernel_rfl)) ok0) Hz)) (En (Lt (Lg [2,4] (Lw (Zc (cutText_spec (Sl i o 5 1 byteC b) o1 o2 255 (fun w h=>h.at_ 3 rfl) o4 f7) ?_))))))))))))))))))))))))
 rintro db dc ⟨a7,o6,o7,dd,de,rfl,o8,o9,p0⟩
 refine Lo (Lw (Zu 3 10 (TSt.cells (⟨e,IntKind.i64.wrap (IntKind.u64.wrap (q-1)),IntKind.i64.wrap (IntKind.u64.wrap (u-1)),IntKind.i64.wrap (IntKind.u64.wrap (x-1)),IntKind.i64.wrap (IntKind.u64.wrap (a0-1)),IntKind.i64.wrap (IntKind.u64.wrap (a1-1)),(⟨a2,a4,a5,a6,a7,a3⟩:TOp),dBd,dPk,0,dRe,0,none,0,[]⟩:TSt)) p0 fun df p1=>Lo (Ld (Lm (Lt (La (Dz (GoQ.again (En (Lq (Ls (LF (Lx (LsC (LsL (Lh (Lt (Ls (Lg [1,3,5,7] (Lw (Zc (cutWord_spec (Sl i o 5 1 byteC b) o6 o7 (fun w h=>h.at_ 3 rfl) o9 p1) ?_)))))))))))))))))))))
 rintro dh di ⟨a9,p2,p3,dj,dk,rfl,p4,dl,p5,p6⟩
 refine Lo (Lw (Zc (cutWord_spec (Sl i o 5 1 byteC b) p2 p3 (fun w h=>h.at_ 3 rfl) p5 p6) ?_))
 rintro dm dn ⟨b2,p7,p8,dq,ds,rfl,p9,dt,q0,q1⟩
 refine Lo (Lw (Zu 3 102 (TSt.cells (⟨e,IntKind.i64.wrap (IntKind.u64.wrap (q-1)),IntKind.i64.wrap (IntKind.u64.wrap (u-1)),IntKind.i64.wrap (IntKind.u64.wrap (x-1)),IntKind.i64.wrap (IntKind.u64.wrap (a0-1)),IntKind.i64.wrap (IntKind.u64.wrap (a1-1)),(⟨a2,a4,a5,a6,a7,a3⟩:TOp),dBd,dPk,a9,dRe,0,none,0,[]⟩:TSt)) q1 fun du q2=>Lo (Lw (Zu 3 105 (TSt.cells (⟨e,IntKind.i64.wrap (IntKind.u64.wrap (q-1)),IntKind.i64.wrap (IntKind.u64.wrap (u-1)),IntKind.i64.wrap (IntKind.u64.wrap (x-1)),IntKind.i64.wrap (IntKind.u64.wrap (a0-1)),IntKind.i64.wrap (IntKind.u64.wrap (a1-1)),(⟨a2,a4,a5,a6,a7,a3⟩:TOp),dBd,dPk,a9,dRe,b2,none,0,[]⟩:TSt)) q2 fun dv q3=>Lo (Ld (Lt (Ls (Lg [1,4,7,10] (Lw (Zc (cutByte_spec (Sl i o 5 1 byteC b) p7 p8 (fun w h=>h.at_ 3 rfl) q0 q3) ?_))))))))))
 rintro dx dy ⟨b3,q4,q5,dz,ea,rfl,q6,eb,q7,q8⟩
 refine Zoj (Hwi 2 b3 Hz) (Zc (cutText_spec (Sl i o 5 1 byteC b) q4 q5 255 (fun w h=>h.at_ 3 rfl) q7 q8) ?_)
 rintro ec ed ⟨b7,q9,r0,ee,eg,rfl,r4,r5,r6⟩
 refine Lo (Lw (Zu 3 103 (TSt.cells (⟨e,IntKind.i64.wrap (IntKind.u64.wrap (q-1)),IntKind.i64.wrap (IntKind.u64.wrap (u-1)),IntKind.i64.wrap (IntKind.u64.wrap (x-1)),IntKind.i64.wrap (IntKind.u64.wrap (a0-1)),IntKind.i64.wrap (IntKind.u64.wrap (a1-1)),(⟨a2,a4,a5,a6,a7,a3⟩:TOp),dBd,dPk,a9,(⟨b3,(⟨#[]⟩:ByteArray)⟩:TRe),b2,none,0,[]⟩:TSt)) r6 fun eh r7=>Lo (Lw (Zu 3 104 (TSt.cells (⟨e,IntKind.i64.wrap (IntKind.u64.wrap (q-1)),IntKind.i64.wrap (IntKind.u64.wrap (u-1)),IntKind.i64.wrap (IntKind.u64.wrap (x-1)),IntKind.i64.wrap (IntKind.u64.wrap (a0-1)),IntKind.i64.wrap (IntKind.u64.wrap (a1-1)),(⟨a2,a4,a5,a6,a7,a3⟩:TOp),dBd,dPk,a9,(⟨b3,b7⟩:TRe),b2,none,0,[]⟩:TSt)) r7 fun ei r8=>Lo (Ld (Lt (Ls (Lg [2,4,6] (Lw (Zqa (f:=45) (args:=#[zP b8 0]) Tryz.call45 (cutByteN_spec (Sl i o 5 1 byteC b) q9 r0 (fun w h=>h.at_ 3 rfl) r5 r8) ?_))))))))))
 rintro ej ek ⟨c5,c7,c8,el,em,rfl,r9,c9,s0⟩
 refine Zoj (Hwi 3 (c5:Nat) Hz) (Zc (cutRaw_spec (Sl i o 5 1 byteC b) c7 c8 c5 (fun w h=>h.at_ 3 rfl) c9 s0) ?_)
 rintro en eo ⟨b9,c0,b4,c1,c2,f8,f9,rfl,d0,d6,s1⟩
 refine Lo (Lw (Zu 4 106 (TSt.cells (⟨e,IntKind.i64.wrap (IntKind.u64.wrap (q-1)),IntKind.i64.wrap (IntKind.u64.wrap (u-1)),IntKind.i64.wrap (IntKind.u64.wrap (x-1)),IntKind.i64.wrap (IntKind.u64.wrap (a0-1)),IntKind.i64.wrap (IntKind.u64.wrap (a1-1)),(⟨a2,a4,a5,a6,a7,a3⟩:TOp),dBd,dPk,a9,(⟨b3,b7⟩:TRe),b2,b9,c0,b4⟩:TSt)) s1 fun s2 d1=>Lo (Ld (Lt (Lq (Ls (Ls (Dz ?_))))))))
 have hh:hdP b=⟨(⟨e,IntKind.i64.wrap (IntKind.u64.wrap (q-1)),IntKind.i64.wrap (IntKind.u64.wrap (u-1)),IntKind.i64.wrap (IntKind.u64.wrap (x-1)),IntKind.i64.wrap (IntKind.u64.wrap (a0-1)),IntKind.i64.wrap (IntKind.u64.wrap (a1-1)),(⟨a2,a4,a5,a6,a7,a3⟩:TOp),dBd,dPk,a9,(⟨b3,b7⟩:TRe),b2,none,0,b4⟩:TSt),(c1,c2)⟩:=by
  unfold hdP
  simp only [i6,j4,j9,k4,k9,l4,m0,m5,n3,n8,o3,o8,p4,p9,q6,r4,r9.1,d0,Int.toNat_natCast]
  rfl
 refine Zaj (Hl 1 4 0 d1 Hz) (Zt (GoC.join (T:=TSt×(List Int)×Bool×(Option Addr)×Nat×Bool) (E:=fun gg=>[(0,.slice ad b.length cb),(2,zP b1 0),(3,.int .i64 0),(4,zP b8 0),(5,zP a 0),(10,.bool gg.2.2.2.2.2)]) (F:=fun gg w=>(StOK gg.1∧(∀ m∈gg.1.pk.ml,MsOK m)∧tlP (hdP b)=(conS gg.1,(gg.2.2.2.2.2,(gg.2.1,gg.2.2.1)))∧CutOK (Sl i o 5 1 byteC b) gg.2.2.2.1 gg.2.1 gg.2.2.2.2.1)∧St w0 ((Sl gg.1.pa gg.1.pc 5 1 byteC gg.1.pl)::(Sl gg.1.bd.qa gg.1.bd.qc 143 2 TPr.cells gg.1.bd.ql)::(Sl gg.1.pk.ma gg.1.pk.mc 63 121 TMs.cells gg.1.pk.ml)::(QS gg.1.pk.ml)::(Cel a (TSt.cells gg.1) 47)::(Cel b8 #[.slice gg.2.2.2.1 gg.2.1.length gg.2.2.2.2.1,.bool gg.2.2.1] 150)::(Sl i o 5 1 byteC b)::(Cel b1 (TSt.cells dSt) 47)::L) w) ?_ ?_))
 ·refine En (Lb (Lq (Dz (Zqc (t:=(e:Int) == 14) (fun d7=>?_) (fun d7=>?_)))))
  ·have d8:=ieqT d7
   refine En (Ls (Lg [1,5,6] (Lw (Zc (carried_spec (Sl i o 5 1 byteC b) c1 c2 (fun w h=>h.at_ 4 rfl) d6 (d1.pl 1)) ?_))))
   rintro ep es ⟨c3,d9,d2,d3,g0,g5,rfl,s4,s5,s6,s7⟩
   refine Lo (Lw (Zag (TMs.cells dMs) s7 fun s8 et s9=>Lo (Dz (Zu 0 0 (TMs.cells c3) s9 fun eu g7=>Lz (Dz (Zgj [4] (Hla 1 0 13 76 (TBd.cells c3.bd) g7 Hz) (Zu 6 12 (TSt.cells (⟨e,IntKind.i64.wrap (IntKind.u64.wrap (q-1)),IntKind.i64.wrap (IntKind.u64.wrap (u-1)),IntKind.i64.wrap (IntKind.u64.wrap (x-1)),IntKind.i64.wrap (IntKind.u64.wrap (a0-1)),IntKind.i64.wrap (IntKind.u64.wrap (a1-1)),(⟨a2,a4,a5,a6,a7,a3⟩:TOp),c3.bd,dPk,a9,(⟨b3,b7⟩:TRe),b2,b9,c0,b4⟩:TSt)) g7 fun t0 t1=>Lo (Lud (Lm (Dz ?_))))))))))
   have t2:=St.slNil t1 63 121 TMs.cells
   have t3:=St.addNothing t2
   obtain⟨xx,hxx⟩:∃ s:TSt,s=(⟨e,IntKind.i64.wrap (IntKind.u64.wrap (q-1)),IntKind.i64.wrap (IntKind.u64.wrap (u-1)),IntKind.i64.wrap (IntKind.u64.wrap (x-1)),IntKind.i64.wrap (IntKind.u64.wrap (a0-1)),IntKind.i64.wrap (IntKind.u64.wrap (a1-1)),(⟨a2,a4,a5,a6,a7,a3⟩:TOp),c3.bd,dPk,a9,(⟨b3,b7⟩:TRe),b2,b9,c0,b4⟩:TSt):=⟨_,rfl⟩
   have g8:St w0 ((QS xx.pk.ml)::(Sl xx.pk.ma xx.pk.mc 63 121 TMs.cells xx.pk.ml)::(Cel s8 (TMs.cells c3) 63)::(Sl xx.bd.qa xx.bd.qc 143 2 TPr.cells xx.bd.ql)::(Cel b8 #[.slice g0 d2.length g5,.bool d3] 150)::(Sl xx.pa xx.pc 5 1 byteC xx.pl)::(Sl (some ⟨a8,0,none⟩) 4 133 1 ptC ([((a,7):Nat×Nat),((a,8):Nat×Nat),((a,9):Nat×Nat),((a,10):Nat×Nat)]))::(Cel b6 #[zP a 1,zP a 2,zP a 3,zP a 4,zP a 5] 110)::(Cel a (TSt.cells xx) 47)::(Sl i o 5 1 byteC b)::(Cel b1 (TSt.cells dSt) 47)::L) t0:=(by rw [hxx];exact t3)
   have hpb:∀ z∈b4,0≤z∧z<256:=by have h9:=tk_byt (n:=c5) (s:=(c7,c8)) c9.byt;rw [d0] at h9;exact h9
   have hxo:StOK xx:=by
    have h9:=g8.slNone 5 rfl
    rw [hxx] at h9 ⊢
    exact⟨(by dsimp only;omega),i64wrap_rng _,i64wrap_rng _,i64wrap_rng _,i64wrap_rng _,i64wrap_rng _,(by dsimp only;omega),(by dsimp only;omega),s5.bd,dVc_ok,(by dsimp only;omega),(by dsimp only;omega),hpb,h9⟩
   have ht:tlP (hdP b)=(conS xx,(d9,(d2,d3))):=by
    have h8:=tlP_14 (h:=hdP b) (m:=conM c3) (ok:=d9) (c:=(d2,d3)) (by rw [hh];exact d8) (by rw [hh];exact s4)
    rw [h8,hh,hxx]
    rfl
   have hxm:∀ m∈xx.pk.ml,MsOK m:=by rw [hxx];intro m hm;cases hm
   have t4:=(((((((((((g8.pl 10).pl 10).pl 6).pl 10).pl 4).pl 5).pl 7).pl 8).pl 10).pl 10).pl 10)
   exact Zme [0,2,3,4,5,10] (xx,d2,d3,g0,g5,d9) ⟨⟨hxo,hxm,ht,s6⟩,(t4.dr 3)⟩
  ·have d8:=ieqF d7
   refine En (Lq (Dz (Zqc (t:=(e:Int) == 16) (fun e0=>?_) (fun e0=>?_))))
   ·have e1:=ieqT e0
    refine En (Lg [1,6] (Lw (Zc (packet_spec (Sl i o 5 1 byteC b) c1 c2 (fun w h=>h.at_ 4 rfl) d6 (d1.pl 1)) ?_)))
    rintro ev ew ⟨e2,e3,d4,d5,g9,h0,rfl,t7,t8,t9,u0,u1⟩
    refine Lo (Lw (Zu 6 88 (TSt.cells (⟨e,IntKind.i64.wrap (IntKind.u64.wrap (q-1)),IntKind.i64.wrap (IntKind.u64.wrap (u-1)),IntKind.i64.wrap (IntKind.u64.wrap (x-1)),IntKind.i64.wrap (IntKind.u64.wrap (a0-1)),IntKind.i64.wrap (IntKind.u64.wrap (a1-1)),(⟨a2,a4,a5,a6,a7,a3⟩:TOp),dBd,e2,a9,(⟨b3,b7⟩:TRe),b2,b9,c0,b4⟩:TSt)) u1 fun u2 u3=>Lo (Lud (Lm (Dz ?_)))))
    have u4:=St.slNil u3 143 2 TPr.cells
    obtain⟨xx,hxx⟩:∃ s:TSt,s=(⟨e,IntKind.i64.wrap (IntKind.u64.wrap (q-1)),IntKind.i64.wrap (IntKind.u64.wrap (u-1)),IntKind.i64.wrap (IntKind.u64.wrap (x-1)),IntKind.i64.wrap (IntKind.u64.wrap (a0-1)),IntKind.i64.wrap (IntKind.u64.wrap (a1-1)),(⟨a2,a4,a5,a6,a7,a3⟩:TOp),dBd,e2,a9,(⟨b3,b7⟩:TRe),b2,b9,c0,b4⟩:TSt):=⟨_,rfl⟩
    have h1:St w0 ((Sl xx.bd.qa xx.bd.qc 143 2 TPr.cells xx.bd.ql)::(Sl xx.pk.ma xx.pk.mc 63 121 TMs.cells xx.pk.ml)::(QS xx.pk.ml)::(Cel b8 #[.slice g9 d4.length h0,.bool d5] 150)::(Sl xx.pa xx.pc 5 1 byteC xx.pl)::(Sl (some ⟨a8,0,none⟩) 4 133 1 ptC ([((a,7):Nat×Nat),((a,8):Nat×Nat),((a,9):Nat×Nat),((a,10):Nat×Nat)]))::(Cel b6 #[zP a 1,zP a 2,zP a 3,zP a 4,zP a 5] 110)::(Cel a (TSt.cells xx) 47)::(Sl i o 5 1 byteC b)::(Cel b1 (TSt.cells dSt) 47)::L) u2:=(by rw [hxx];exact u4)
    have hpb:∀ z∈b4,0≤z∧z<256:=by have h9:=tk_byt (n:=c5) (s:=(c7,c8)) c9.byt;rw [d0] at h9;exact h9
    have hxo:StOK xx:=by
     have h9:=h1.slNone 4 rfl
     rw [hxx] at h9 ⊢
     exact⟨(by dsimp only;omega),i64wrap_rng _,i64wrap_rng _,i64wrap_rng _,i64wrap_rng _,i64wrap_rng _,(by dsimp only;omega),(by dsimp only;omega),dBd_ok,t8,(by dsimp only;omega),(by dsimp only;omega),hpb,h9⟩
    have ht:tlP (hdP b)=(conS xx,(e3,(d4,d5))):=by
     have h8:=tlP_16 (h:=hdP b) (p:=conP e2) (ok:=e3) (c:=(d4,d5)) (by rw [hh];exact e1) (by rw [hh];exact t7)
     rw [h8,hh,hxx]
     rfl
    have hxm:∀ m∈xx.pk.ml,MsOK m:=by rw [hxx];exact t9
    have u5:=((((((((((h1.pl 9).pl 9).pl 5).pl 9).pl 6).pl 6).pl 6).pl 7).pl 9).pl 9)
    exact Zme [0,2,3,4,5,10] (xx,d4,d5,g9,h0,e3) ⟨⟨hxo,hxm,ht,u0⟩,(u5.dr 2)⟩
   ·have e1:=ieqF e0
    refine Zk (Zm ?_)
    have u7:=St.slNil d1 143 2 TPr.cells
    have u8:=St.slNil u7 63 121 TMs.cells
    have u9:=St.addNothing u8
    obtain⟨xx,hxx⟩:∃ s:TSt,s=(⟨e,IntKind.i64.wrap (IntKind.u64.wrap (q-1)),IntKind.i64.wrap (IntKind.u64.wrap (u-1)),IntKind.i64.wrap (IntKind.u64.wrap (x-1)),IntKind.i64.wrap (IntKind.u64.wrap (a0-1)),IntKind.i64.wrap (IntKind.u64.wrap (a1-1)),(⟨a2,a4,a5,a6,a7,a3⟩:TOp),dBd,dPk,a9,(⟨b3,b7⟩:TRe),b2,b9,c0,b4⟩:TSt):=⟨_,rfl⟩
    have h2:St w0 ((QS xx.pk.ml)::(Sl xx.pk.ma xx.pk.mc 63 121 TMs.cells xx.pk.ml)::(Sl xx.bd.qa xx.bd.qc 143 2 TPr.cells xx.bd.ql)::(Sl xx.pa xx.pc 5 1 byteC xx.pl)::(Cel b8 #[.slice f8 c1.length f9,.bool c2] 150)::(Sl (some ⟨a8,0,none⟩) 4 133 1 ptC ([((a,7):Nat×Nat),((a,8):Nat×Nat),((a,9):Nat×Nat),((a,10):Nat×Nat)]))::(Cel b6 #[zP a 1,zP a 2,zP a 3,zP a 4,zP a 5] 110)::(Cel a (TSt.cells xx) 47)::(Sl i o 5 1 byteC b)::(Cel b1 (TSt.cells dSt) 47)::L) s2:=(by rw [hxx];exact u9)
    have hpb:∀ z∈b4,0≤z∧z<256:=by have h9:=tk_byt (n:=c5) (s:=(c7,c8)) c9.byt;rw [d0] at h9;exact h9
    have hxo:StOK xx:=by
     have h9:=h2.slNone 3 rfl
     rw [hxx] at h9 ⊢
     exact⟨(by dsimp only;omega),i64wrap_rng _,i64wrap_rng _,i64wrap_rng _,i64wrap_rng _,i64wrap_rng _,(by dsimp only;omega),(by dsimp only;omega),dBd_ok,dVc_ok,(by dsimp only;omega),(by dsimp only;omega),hpb,h9⟩
    have ht:tlP (hdP b)=(conS xx,(true,(c1,c2))):=by
     have h8:=tlP_0 (h:=hdP b) (by rw [hh];exact d8) (by rw [hh];exact e1)
     rw [h8,hh,hxx]
     rfl
    have hxm:∀ m∈xx.pk.ml,MsOK m:=by rw [hxx];intro m hm;cases hm
    have v0:=((((((((((h2.pl 9).pl 9).pl 6).pl 9).pl 4).pl 5).pl 6).pl 7).pl 9).pl 9)
    exact Zme [0,2,3,4,5,10] (xx,c1,c2,f8,f9,true) ⟨⟨hxo,hxm,ht,d6⟩,(v0.dr 2)⟩
 rintro⟨xx,rrz,spz,azz,czz,okz⟩ ex ⟨hpz,e4⟩
 dsimp only at hpz e4
 refine GoQ.slots (S':=[(0,.slice ad b.length cb),(2,zP b1 0),(3,.int .i64 0),(4,zP b8 0),(5,zP a 0),(10,.bool okz)]) rfl (Zt (Zs (Zs ?_)))
 obtain⟨hxo,hxm,ht,hqz⟩:=hpz
 refine Zg [4,9,14,19,21] (Zr 0 3 [] ?_)
 rcases Bool.eq_false_or_eq_true (!okz) with b0|b0
 ·refine Zqs 95 true b0 (En (Lw (Zsk (En (Lw (Zsk (En (Lw (Zsk (En (Lw (Zsk (En (Lw (Zsk (En (Lud (Lt (LT (Ls (Lg [1] (Lw (Zu 7 0 (TSt.cells dSt) e4 fun ey h3=>Lz (Le (Ly (Dz (Zrv 7 (.int .i64 5) h3 ?_)))))))))))))))))))))))))))
  have v3:=St.slNil h3 5 1 byteC
  have v4:=St.slNil v3 143 2 TPr.cells
  have v5:=St.slNil v4 63 121 TMs.cells
  have v6:=St.addNothing v5
  have v7:=((((((((((((v6.pl 0).pl 1).pl 2).pl 3).pl 11).pl 11).pl 11).pl 11).pl 11).pl 11).pl 11).pl 11)
  exact⟨dSt,5,rfl,(by unfold getT;rw [ht];unfold finT;simp only [];rw [if_pos (by simpa using b0)];rfl),dSt_ok,(fun m hm=>by cases hm),(v7.dr 8)⟩
 ·refine Zqs 95 false b0 (En (Lw (Zc1 (cutOk_spec rrz spz (e4.pl 5)) fun fa h4=>Lo (Dz (Zr 5 3 [] ?_)))))
  rcases Bool.eq_false_or_eq_true (!(!spz)) with b5|b5
  ·refine Zqs 100 true b5 (En (Lw (Zsk (En (Lw (Zsk (En (Lw (Zsk (En (Lw (Zsk (En (Lud (Lt (LT (Ls (Lg [1] (Lw (Zu 7 0 (TSt.cells dSt) h4 fun fb h5=>Lz (Le (Ly (Dz (Zrv 7 (.int .i64 5) h5 ?_))))))))))))))))))))))))
   have w4:=St.slNil h5 5 1 byteC
   have w5:=St.slNil w4 143 2 TPr.cells
   have w6:=St.slNil w5 63 121 TMs.cells
   have w7:=St.addNothing w6
   have w8:=((((((((((((w7.pl 0).pl 1).pl 2).pl 3).pl 11).pl 11).pl 11).pl 11).pl 11).pl 11).pl 11).pl 11)
   exact⟨dSt,5,rfl,(by unfold getT;rw [ht];unfold finT;simp only [];rw [if_neg (by simpa using b0),if_pos (by simpa using b5)];rfl),dSt_ok,(fun m hm=>by cases hm),(w8.dr 8)⟩
  ·refine Zqs 100 false b5 (En (Lw (Zc1 (cutLeft_spec rrz spz h4) fun fd e5=>Lo (Dz (Zr 10 3 [] (Zsd 105 ((rrz.length:Int)>0) (fun x1=>?_) (fun x1=>?_)))))))
   ·refine En (Lw (Zsk (En (Lw (Zsk (En (Lw (Zsk (En (Lud (Lt (LT (Ls (Lg [1] (Lw (Zu 7 0 (TSt.cells dSt) e5 fun fe h6=>Lz (Le (Ly (Dz (Zrv 7 (.int .i64 5) h6 ?_))))))))))))))))))))
    have x2:=St.slNil h6 5 1 byteC
    have x3:=St.slNil x2 143 2 TPr.cells
    have x4:=St.slNil x3 63 121 TMs.cells
    have x5:=St.addNothing x4
    have x6:=((((((((((((x5.pl 0).pl 1).pl 2).pl 3).pl 11).pl 11).pl 11).pl 11).pl 11).pl 11).pl 11).pl 11)
    exact⟨dSt,5,rfl,(by unfold getT;rw [ht];unfold finT;simp only [];rw [if_neg (by simpa using b0),if_neg (by simpa using b5),if_pos (by omega)];rfl),dSt_ok,(fun m hm=>by cases hm),(x6.dr 8)⟩
   ·refine Zj (Hla 13 5 0 107 (TSt.cells xx) e5 Hz) (Zc1 (mayS_spec xx hxo (fun k hk=>⟨hxm _ (getD_mem (d:=dMs) hk),fun w h=>QS_rows (h.at_ 4 rfl) hk⟩) (fun w h=>h.rows 2 rfl (dPrF).size _) (fun w h=>h.rows 3 rfl (dMsF).size _) (fun w h=>h.rows 1 rfl (byteF).size _) e5) fun fg e6=>Lo (Dz (Zr 15 3 [] (Zsq 110 (!(mayS xx)) (fun c4=>?_) (fun c4=>?_)))))
    ·refine En (Lw (Zsk (En (Lw (Zsk (En (Lud (Lt (LT (Ls (Lg [1] (Lw (Zu 7 0 (TSt.cells dSt) e6 fun fh h7=>Lz (Le (Ly (Dz (Zrv 7 (.int .i64 5) h7 ?_)))))))))))))))))
     have x9:=St.slNil h7 5 1 byteC
     have y0:=St.slNil x9 143 2 TPr.cells
     have y1:=St.slNil y0 63 121 TMs.cells
     have y2:=St.addNothing y1
     have y3:=((((((((((((y2.pl 0).pl 1).pl 2).pl 3).pl 11).pl 11).pl 11).pl 11).pl 11).pl 11).pl 11).pl 11)
     exact⟨dSt,5,rfl,(by unfold getT;rw [ht];unfold finT;simp only [];rw [if_neg (by simpa using b0),if_neg (by simpa using b5),if_neg (by omega),mayS_con,if_pos (notT c4)];rfl),dSt_ok,(fun m hm=>by cases hm),(y3.dr 8)⟩
    ·refine Zj (Hla 18 5 0 107 (TSt.cells xx) e6 Hz) (Zc (putS_spec xx hxo (fun k hk=>⟨hxm _ (getD_mem (d:=dMs) hk),fun w h=>QS_rows (h.at_ 4 rfl) hk⟩) (fun w h=>h.rows 2 rfl (dPrF).size _) (fun w h=>h.rows 3 rfl (dMsF).size _) (fun w h=>h.rows 1 rfl (byteF).size _) e6) ?_)
     rintro fi fj ⟨y5,y6,rfl,y7⟩
     refine Lo (Lw (Zqa (f:=83) (args:=#[.slice y5 ((putS xx).length) y6,.slice ad b.length cb]) Tryz.call83 (bytesEq_spec (putS xx) b (putS_byt hxo hxm) hbb (fun w h=>h.rows 0 rfl (byteF).size _) (fun w h=>hr _ (h.drop 9)) y7) ?_))
     rintro fk fl ⟨rfl,e7⟩
     refine Lz (Dz (Zqc (t:=!(decide ((putS xx)=b))) (fun c6=>?_) (fun c6=>?_)))
     ·refine En (Ls (Lg [1] (Lw (Zu 8 0 (TSt.cells dSt) e7 fun fm i0=>Lz (Le (Ly (Dz (Zrv 8 (.int .i64 5) i0 ?_))))))))
      have y9:=St.slNil i0 5 1 byteC
      have z0:=St.slNil y9 143 2 TPr.cells
      have z1:=St.slNil z0 63 121 TMs.cells
      have z2:=St.addNothing z1
      have z3:=(((((((((((((z2.pl 0).pl 1).pl 2).pl 3).pl 12).pl 12).pl 12).pl 12).pl 12).pl 12).pl 12).pl 12).pl 12)
      exact⟨dSt,5,rfl,(by unfold getT;rw [ht];unfold finT;simp only [];rw [if_neg (by simpa using b0),if_neg (by simpa using b5),if_neg (by omega),mayS_con,if_neg (by rw [notF c4];decide),putS_con,if_neg (of_decide_eq_false (notT c6))];rfl),dSt_ok,(fun m hm=>by cases hm),(z3.dr 9)⟩
     ·refine Zk (Zt (Zs (Zgj [1] (Hla 0 6 0 107 (TSt.cells xx) e7 Hz) (Zu 8 0 (TSt.cells xx) e7 fun fo i1=>Lz (Le (Dz (Zrv 8 (.int .i64 0) i1 ?_)))))))
      have z5:=(((((((((i1.pl 5).pl 5).pl 5).pl 5).pl 8).pl 8).pl 8).pl 8).pl 8)
      exact⟨xx,0,rfl,(by unfold getT;rw [ht];unfold finT;simp only [];rw [if_neg (by simpa using b0),if_neg (by simpa using b5),if_neg (by omega),mayS_con,if_neg (by rw [notF c4];decide),putS_con,if_pos (of_decide_eq_true (notF c6))]),hxo,hxm,(z5.dr 5)⟩
end
section
variable {w0 w : World} {L : List Asn} {ay : Option Addr} {cy : Nat} {ax : Option Addr} {cx : Nat}
theorem pairs_spec (x) (y) (hll:x.length≤9223372036854775807) (hr1:Rw w0 L TPr.cells 2 dPr ax x) (hr2:Rw w0 L TPr.cells 2 dPr ay y) (hs:St w0 (L) w):Cs Tryz.prog 104 #[.slice ax x.length cx,.slice ay y.length cy] w fun rv w'=>rv=.bool (decide (x=y))∧St w0 (L) w':=by
 refine Zen Tryz.func104 Tryz.ntmps104 (En (Lq (Ls (Lq (Dz (Zqc (t:=(x.length:Int) != (y.length:Nat)) (fun h1=>?_) (fun h1=>?_)))))))
 ·have a4:=ineT h1
  exact En (Lq (Le (Ly (Dz (Zq1 (v:=.bool false) ⟨(by rw [decide_eq_false fun h9=>absurd (congrArg List.length h9) (by omega)]),hs⟩)))))
 ·have a4:=ineF h1
  have hln:x.length=y.length:=by omega
  refine En (Lk (Lt (Ls (Lq (Lb (Dz (GoC.loop (T:=Nat×(Option Addr)×(Option Addr)) (fun gg=>[(0,.slice gg.2.1 x.length cx),(1,.slice gg.2.2 y.length cy),(5,.int .i64 (gg.1:Nat))]) (fun gg w=>(gg.1≤x.length∧x.take gg.1=y.take gg.1∧(∀ w,St w0 L w→RowsAt w gg.2.1 x.length 2 (fun q=>TPr.cells (x.getD q dPr)))∧(∀ w,St w0 L w→RowsAt w gg.2.2 y.length 2 (fun q=>TPr.cells (y.getD q dPr))))∧St w0 (L) w) (fun gg=>x.length-gg.1) (0,ax,ay) [0,1,5] (by kernel_rfl) ⟨⟨Nat.zero_le _,rfl,hr1,hr2⟩,hs⟩ ?_)))))))
  rintro⟨k,aq,bq⟩ w2 ⟨hp,a⟩
  dsimp only at hp a
  have a1:=hp.2.2.1
  have a2:=hp.2.2.2
  refine En (Ls (Lq (Dz (Zi ((k:Int)<(x.length:Nat)) (fun a5=>?_) (fun a5=>?_)))))
  ·have hkx:k<x.length:=by omega
   have hky:k<y.length:=by omega
   obtain⟨e,f,rfl⟩:=RowsAt.isSome (a1 _ (a.drop 0)) (by omega)
   obtain⟨o,u,rfl⟩:=RowsAt.isSome (a2 _ (a.drop 0)) (by omega)
   refine Zk (Zt (Zs (Zb (Zs (ZD (rds [0,1,2,3,4,5,6,7,8] .done) a fun a6 a0 a7=>Zp 0 8 [(2,.as_ (zP e (f+(k*2))) .at_),(3,.agg (TPr.cells (x.getD k dPr))),(6,.as_ (zP o (u+(k*2))) .at_),(7,.agg (TPr.cells (y.getD k dPr)))] [(2,[.prop (0≤(k:Int)∧(k:Int)<(x.length:Int)),.prop (Value.pointer (some (Addr.add ⟨e,f,none⟩ (Int.toNat (k:Nat)*2)))=Value.pointer (some ⟨e,f+(k*2),none⟩))]),(3,[.prop (Array.size (TPr.cells (x.getD k dPr))=2),.cells ⟨e,f+(k*2),none⟩ (TPr.cells (x.getD k dPr))]),(6,[.prop (0≤(k:Int)∧(k:Int)<(y.length:Int)),.prop (Value.pointer (some (Addr.add ⟨o,u,none⟩ (Int.toNat (k:Nat)*2)))=Value.pointer (some ⟨o,u+(k*2),none⟩))]),(7,[.prop (Array.size (TPr.cells (y.getD k dPr))=2),.cells ⟨o,u+(k*2),none⟩ (TPr.cells (y.getD k dPr))])] (ak (okp (by omega) (okp (ptrAdd _ _ _) ok0)) (ak (okp (by kernel_rfl) (oka (RowsAt.all0 (a1 _ (a0.drop 0)) (by first|omega|(simp only [List.length_set];omega)|(simp only [List.length_set,lA,lC,lN];omega)) (Nat.le_of_ble_eq_true (by kernel_rfl)) (by kernel_rfl)) ok0)) (ak (okp (by omega) (okp (ptrAdd _ _ _) ok0)) (ak (okp (by kernel_rfl) (oka (RowsAt.all0 (a2 _ (a0.drop 0)) (by first|omega|(simp only [List.length_set];omega)|(simp only [List.length_set,lA,lC,lN];omega)) (Nat.le_of_ble_eq_true (by kernel_rfl)) (by kernel_rfl)) ok0)) ak0)))) (GoR.eqAgg rfl (by kernel_rfl) (b:=false) (t:=143) (xs:=TPr.cells (x.getD k dPr)) (ys:=TPr.cells (y.getD k dPr)) (m:=2) (by kernel_rfl) (by kernel_rfl) (by decide) (by kernel_rfl) (r:=!(decide ((x.getD k dPr)=(y.getD k dPr)))) (aggNe  (prEq (x.getD k dPr) (y.getD k dPr))) (Zd (Zt (Zqc (t:=!(decide ((x.getD k dPr)=(y.getD k dPr)))) (fun z=>?_) (fun z=>?_))))))))))
   ·have a3:=notT z
    have hne:¬ (x.getD k dPr=y.getD k dPr):=by simpa using z
    exact En (Lq (Le (Ll (Ly (LsR (Ll (Ly (Dz (Zq1 (v:=.bool false) ⟨(by rw [decide_eq_false fun h9=>hne (by rw [h9])]),a0⟩)))))))))
   ·have a3:=notF z
    have heq:x.getD k dPr=y.getD k dPr:=by simpa using z
    exact Zk (Zm (Zt (Zaj (Hwi 1 ((k:Nat)+1) Hz) (GoQ.back (k+1,some ⟨e,f,none⟩,some ⟨o,u,none⟩) [0,1,5] (by kernel_rfl) (by show x.length-(k+1)<x.length-k;omega) ⟨⟨by omega,by rw [take_succ_getD (d:=dPr) hkx,take_succ_getD (d:=dPr) hky,hp.2.1,heq],a1,a2⟩,a0⟩))))
  ·have hxy:x=y:=by rw [← List.take_of_length_le (i:=k) (l:=x) (by omega),← List.take_of_length_le (i:=k) (l:=y) (by omega)];exact hp.2.1
   exact En (Lx (LsC (LsL (Lh (Lt (Lq (Le (Dz (Zq1 (v:=.bool true) ⟨(by rw [decide_eq_true hxy]),a⟩)))))))))
def same8B (x:TBd) (y:TBd):Bool :=
 if ((x.kd:Int) == y.kd)=true then
  if ((x.vw:Int) == y.vw)=true then
   if ((x.k:Int) == y.k)=true then
    if (decide (x.rq=y.rq))=true then
     if (decide (x.ql=y.ql))=true then
      decide (x.dg=y.dg)
     else
      false
    else
     false
   else
    false
  else
   false
 else
  false
theorem sameBody8_spec (x) (y) (hqn:x.ql.length≤9223372036854775807) (hr1:Rw w0 L TPr.cells 2 dPr x.qa x.ql) (hr2:Rw w0 L TPr.cells 2 dPr y.qa y.ql) (hs:St w0 (L) w):Cs Tryz.prog 66 #[.agg (TBd.cells x),.agg (TBd.cells y)] w fun rv w'=>rv=.bool (same8B x y)∧St w0 (L) w':=by
 refine Zen Tryz.func66 Tryz.ntmps66 (En (Ls (Lg [0,1] (Dz (Zbg (TBd.cells x) hs fun z w2 a6=>Lo (Dz (Zbg (TBd.cells y) a6 fun b4 w5 a=>Lz (Ls (Lg [31] (Dz (Zpj 0 6 (Hl 1 1 0 a (Hl 3 0 0 a Hz)) (Zsq 10 ((x.kd:Int) == y.kd) (fun d=>?_) (fun d=>?_)))))))))))))
 ·refine Zpj 6 7 (Hl 7 1 1 a (Hl 9 0 1 a Hz)) (Zsq 17 ((x.vw:Int) == y.vw) (fun e=>?_) (fun e=>?_))
  ·refine Zpj 13 7 (Hl 14 1 2 a (Hl 16 0 2 a Hz)) (Zsq 24 ((x.k:Int) == y.k) (fun i=>?_) (fun i=>?_))
   ·refine Zp 20 4 [(21,.agg (TRq.cells x.rq)),(23,.agg (TRq.cells y.rq))] [(21,[.prop (Array.size (TRq.cells x.rq)=40),.cells ⟨z,3,none⟩ (TRq.cells x.rq)]),(23,[.prop (Array.size (TRq.cells y.rq)=40),.cells ⟨b4,3,none⟩ (TRq.cells y.rq)])] (ak (okp (by kernel_rfl) (oka (a.cells 1 3 rfl (by kernel_rfl)) ok0)) (ak (okp (by kernel_rfl) (oka (a.cells 0 3 rfl (by kernel_rfl)) ok0)) ak0)) (GoR.eqAgg rfl (by kernel_rfl) (b:=true) (t:=34) (xs:=TRq.cells x.rq) (ys:=TRq.cells y.rq) (m:=3) (by kernel_rfl) (by kernel_rfl) (by decide) (by kernel_rfl) (r:=decide (x.rq=y.rq)) (aggEq  (rqEq x.rq y.rq)) (Zr 25 2 [] (Zsq 31 (decide (x.rq=y.rq)) (fun o=>?_) (fun o=>?_))))
    ·refine Zj (Hl 28 1 43 a (Hl 30 0 43 a Hz)) (Zqa (f:=104) (args:=#[.slice x.qa x.ql.length x.qc,.slice y.qa y.ql.length y.qc]) Tryz.call104 (pairs_spec x.ql y.ql (by first|assumption|omega) (fun w h=>hr1 _ (h.drop 2)) (fun w h=>hr2 _ (h.drop 2)) a) ?_)
     rintro b2 b3 ⟨rfl,q⟩
     refine Lo (Dz (Zr 32 2 [] (Zsq 38 (decide (x.ql=y.ql)) (fun u=>?_) (fun u=>?_))))
     ·exact Zp 34 4 [(35,.agg (D32.cells x.dg)),(37,.agg (D32.cells y.dg))] [(35,[.prop (Array.size (D32.cells x.dg)=32),.cells ⟨z,44,none⟩ (D32.cells x.dg)]),(37,[.prop (Array.size (D32.cells y.dg)=32),.cells ⟨b4,44,none⟩ (D32.cells y.dg)])] (ak (okp (by kernel_rfl) (oka (q.cells 1 44 rfl (by kernel_rfl)) ok0)) (ak (okp (by kernel_rfl) (oka (q.cells 0 44 rfl (by kernel_rfl)) ok0)) ak0)) (GoR.eqAgg rfl (by kernel_rfl) (b:=true) (t:=32) (xs:=D32.cells x.dg) (ys:=D32.cells y.dg) (m:=2) (by kernel_rfl) (by kernel_rfl) (by decide) (by kernel_rfl) (r:=decide (x.dg=y.dg)) (aggEq  (digEq x.dg y.dg)) (En (Lud (Lt (Le (Dz (Zq1 (v:=.bool (decide (x.dg=y.dg))) (Zfb (by rw [same8B,if_pos d,if_pos e,if_pos i,if_pos o,if_pos u]) (q.dr 2)))))))))
     ·exact En (Lud (Lt (Le (Dz (Zq1 (v:=.bool false) (Zfb (by rw [same8B,if_pos d,if_pos e,if_pos i,if_pos o,nI u]) (q.dr 2)))))))
    ·exact En (Lw (Zsk (En (Lud (Lt (Le (Dz (Zq1 (v:=.bool false) (Zfb (by rw [same8B,if_pos d,if_pos e,if_pos i,nI o]) (a.dr 2))))))))))
   ·exact En (Lw (Zsk (En (Lud (Lt (Le (Dz (Zq1 (v:=.bool false) (Zfb (by rw [same8B,if_pos d,if_pos e,nI i]) (a.dr 2))))))))))
  ·exact En (Lw (Zsk (En (Lud (Lt (Le (Dz (Zq1 (v:=.bool false) (Zfb (by rw [same8B,if_pos d,nI e]) (a.dr 2))))))))))
 ·exact En (Lw (Zsk (En (Lud (Lt (Le (Dz (Zq1 (v:=.bool false) (Zfb (by rw [same8B,nI d]) (a.dr 2))))))))))
def ownR (x:TBd):TBd :=
 if ((x.kd:Int) == 1)=true then
  (⟨x.kd,x.vw,0,x.rq,none,0,[],dD32⟩:TBd)
 else
  if ((x.kd:Int) == 2)=true then
   (⟨x.kd,x.vw,x.k,dRq,none,0,[],dD32⟩:TBd)
  else
   if ((x.kd:Int) == 3)=true then
    (⟨x.kd,x.vw,0,dRq,none,0,[],dD32⟩:TBd)
   else
    if ((x.kd:Int) == 5)=true then
     (⟨x.kd,x.vw,0,dRq,none,0,[],dD32⟩:TBd)
    else
     if ((x.kd:Int) == 4)=true then
      (⟨x.kd,x.vw,0,dRq,x.qa,x.qc,x.ql,dD32⟩:TBd)
     else
      if ((x.kd:Int) == 6)=true then
       (⟨x.kd,0,x.k,dRq,none,0,[],x.dg⟩:TBd)
      else
       (⟨x.kd,0,0,dRq,none,0,[],dD32⟩:TBd)
theorem own_spec (x) (hs:St w0 (L) w):Cs Tryz.prog 67 #[.agg (TBd.cells x)] w fun rv w'=>rv=.agg (TBd.cells (ownR x))∧St w0 (L) w':=by
 refine Zen Tryz.func67 Tryz.ntmps67 (En (Ls (Lg [0,1] (Dz (Zbg (TBd.cells x) hs fun b1 w2 c5=>Lo (Dz (Zag (TBd.cells dBd) c5 fun b4 w5 q=>Lo (Ld (Lt (Ls (Dz (Zgj [3,4] (Hl 1 1 0 q Hz) (Zag (TBd.cells dBd) q fun b7 w8 c6=>Lo (Dz (Zu 0 0 (TBd.cells (⟨x.kd,0,0,dRq,none,0,[],dD32⟩:TBd)) c6 fun d3 a=>Lo (Ld (Lt (Ls (Ls (Dz (Zaj (Hl 1 2 0 a Hz) (En (Lt (Lb (Lq (Dz (Zqc (t:=(x.kd:Int) == 1) (fun b=>?_) (fun b=>?_))))))))))))))))))))))))))))
 ·have c7:=ieqT b
  refine Zs (Zgj [3] (Hl 1 2 1 a Hz) (Zu 0 1 (TBd.cells (⟨x.kd,x.vw,0,dRq,none,0,[],dD32⟩:TBd)) a fun d4 u=>Lo (Ld (Lt (Dz (Zgj [3] (Hla 1 2 3 40 (TRq.cells x.rq) u Hz) (Zu 0 3 (TBd.cells (⟨x.kd,x.vw,0,x.rq,none,0,[],dD32⟩:TBd)) u fun d5 z=>Lo (Ld (Lm (Lt (Ls (Dz (Zgj [1] (Hla 0 0 0 76 (TBd.cells (⟨x.kd,x.vw,0,x.rq,none,0,[],dD32⟩:TBd)) z Hz) (Zu 1 0 (TBd.cells (⟨x.kd,x.vw,0,x.rq,none,0,[],dD32⟩:TBd)) z fun d6 a0=>Lo (Ld (Lt (Le (Dz (Zra 1 a0 ?_)))))))))))))))))))
  have hr:ownR x=(⟨x.kd,x.vw,0,x.rq,none,0,[],dD32⟩:TBd):=by rw [ownR,if_pos b]
  have a1:=a0.dr 3
  exact⟨(by first|rfl|(rw [hr];done)|(rw [hr];rfl)),(by first|exact a1|(rw [hr];exact a1))⟩
 ·have c7:=ieqF b
  refine En (Lq (Dz (Zqc (t:=(x.kd:Int) == 2) (fun d=>?_) (fun d=>?_))))
  ·have c8:=ieqT d
   refine Zs (Zgj [3] (Hl 1 2 1 a Hz) (Zu 0 1 (TBd.cells (⟨x.kd,x.vw,0,dRq,none,0,[],dD32⟩:TBd)) a fun d7 a2=>Lo (Ld (Lt (Dz (Zgj [3] (Hl 1 2 2 a2 Hz) (Zu 0 2 (TBd.cells (⟨x.kd,x.vw,x.k,dRq,none,0,[],dD32⟩:TBd)) a2 fun d8 a3=>Lo (Ld (Lm (Lt (Ls (Dz (Zgj [1] (Hla 0 0 0 76 (TBd.cells (⟨x.kd,x.vw,x.k,dRq,none,0,[],dD32⟩:TBd)) a3 Hz) (Zu 1 0 (TBd.cells (⟨x.kd,x.vw,x.k,dRq,none,0,[],dD32⟩:TBd)) a3 fun d9 a4=>Lo (Ld (Lt (Le (Dz (Zra 1 a4 ?_)))))))))))))))))))
   have hr:ownR x=(⟨x.kd,x.vw,x.k,dRq,none,0,[],dD32⟩:TBd):=by rw [ownR,nI b,if_pos d]
   have a5:=a4.dr 3
   exact⟨(by first|rfl|(rw [hr];done)|(rw [hr];rfl)),(by first|exact a5|(rw [hr];exact a5))⟩
  ·have c8:=ieqF d
   refine En (Ls (Lq (Dz (Zqc (t:=(x.kd:Int) == 3) (fun e=>?_) (fun e=>?_)))))
   ·have c9:=ieqT e
    refine Zk (Zt (Zqc (t:=(x.kd:Int) == 3) (fun _=>Zgj [3] (Hl 1 2 1 a Hz) (Zu 0 1 (TBd.cells (⟨x.kd,x.vw,0,dRq,none,0,[],dD32⟩:TBd)) a fun e0 a6=>Lo (Ld (Lm (Lt (Ls (Dz (Zgj [1] (Hla 0 0 0 76 (TBd.cells (⟨x.kd,x.vw,0,dRq,none,0,[],dD32⟩:TBd)) a6 Hz) (Zu 1 0 (TBd.cells (⟨x.kd,x.vw,0,dRq,none,0,[],dD32⟩:TBd)) a6 fun e1 a7=>Lo (Ld (Lt (Le (Dz (Zra 1 a7 ?_)))))))))))))) (fun hc=>absurd (e.symm.trans hc) (by decide))))
    have hr:ownR x=(⟨x.kd,x.vw,0,dRq,none,0,[],dD32⟩:TBd):=by rw [ownR,nI b,nI d,if_pos e]
    have a8:=a7.dr 3
    exact⟨(by first|rfl|(rw [hr];done)|(rw [hr];rfl)),(by first|exact a8|(rw [hr];exact a8))⟩
   ·have c9:=ieqF e
    refine Za (Zt (Zqc (t:=(x.kd:Int) == 5) (fun f=>?_) (fun f=>?_)))
    ·have d0:=ieqT f
     refine Zgj [3] (Hl 1 2 1 a Hz) (Zu 0 1 (TBd.cells (⟨x.kd,x.vw,0,dRq,none,0,[],dD32⟩:TBd)) a fun e2 a9=>Lo (Ld (Lm (Lt (Ls (Dz (Zgj [1] (Hla 0 0 0 76 (TBd.cells (⟨x.kd,x.vw,0,dRq,none,0,[],dD32⟩:TBd)) a9 Hz) (Zu 1 0 (TBd.cells (⟨x.kd,x.vw,0,dRq,none,0,[],dD32⟩:TBd)) a9 fun e3 b0=>Lo (Ld (Lt (Le (Dz (Zra 1 b0 ?_)))))))))))))
     have hr:ownR x=(⟨x.kd,x.vw,0,dRq,none,0,[],dD32⟩:TBd):=by rw [ownR,nI b,nI d,nI e,if_pos f]
     have b2:=b0.dr 3
     exact⟨(by first|rfl|(rw [hr];done)|(rw [hr];rfl)),(by first|exact b2|(rw [hr];exact b2))⟩
    ·have d0:=ieqF f
     refine En (Lq (Dz (Zqc (t:=(x.kd:Int) == 4) (fun i=>?_) (fun i=>?_))))
     ·have d1:=ieqT i
      refine Zs (Zgj [3] (Hl 1 2 1 a Hz) (Zu 0 1 (TBd.cells (⟨x.kd,x.vw,0,dRq,none,0,[],dD32⟩:TBd)) a fun e4 b3=>Lo (Ld (Lt (Dz (Zgj [3] (Hl 1 2 43 b3 Hz) (Zu 0 43 (TBd.cells (⟨x.kd,x.vw,0,dRq,x.qa,x.qc,x.ql,dD32⟩:TBd)) b3 fun e5 b5=>Lo (Ld (Lm (Lt (Ls (Dz (Zgj [1] (Hla 0 0 0 76 (TBd.cells (⟨x.kd,x.vw,0,dRq,x.qa,x.qc,x.ql,dD32⟩:TBd)) b5 Hz) (Zu 1 0 (TBd.cells (⟨x.kd,x.vw,0,dRq,x.qa,x.qc,x.ql,dD32⟩:TBd)) b5 fun e6 b6=>Lo (Ld (Lt (Le (Dz (Zra 1 b6 ?_)))))))))))))))))))
      have hr:ownR x=(⟨x.kd,x.vw,0,dRq,x.qa,x.qc,x.ql,dD32⟩:TBd):=by rw [ownR,nI b,nI d,nI e,nI f,if_pos i]
      have b8:=b6.dr 3
      exact⟨(by first|rfl|(rw [hr];done)|(rw [hr];rfl)),(by first|exact b8|(rw [hr];exact b8))⟩
     ·have d1:=ieqF i
      refine En (Lq (Dz (Zqc (t:=(x.kd:Int) == 6) (fun o=>?_) (fun o=>?_))))
      ·have d2:=ieqT o
       refine Zs (Zgj [3] (Hl 1 2 2 a Hz) (Zu 0 2 (TBd.cells (⟨x.kd,0,x.k,dRq,none,0,[],dD32⟩:TBd)) a fun e7 b9=>Lo (Ld (Lt (Dz (Zgj [3] (Hla 1 2 44 32 (D32.cells x.dg) b9 Hz) (Zu 0 44 (TBd.cells (⟨x.kd,0,x.k,dRq,none,0,[],x.dg⟩:TBd)) b9 fun e8 c0=>Lo (Ld (Lm (Lt (Ls (Dz (Zgj [1] (Hla 0 0 0 76 (TBd.cells (⟨x.kd,0,x.k,dRq,none,0,[],x.dg⟩:TBd)) c0 Hz) (Zu 1 0 (TBd.cells (⟨x.kd,0,x.k,dRq,none,0,[],x.dg⟩:TBd)) c0 fun e9 c1=>Lo (Ld (Lt (Le (Dz (Zra 1 c1 ?_)))))))))))))))))))
       have hr:ownR x=(⟨x.kd,0,x.k,dRq,none,0,[],x.dg⟩:TBd):=by rw [ownR,nI b,nI d,nI e,nI f,nI i,if_pos o]
       have c2:=c1.dr 3
       exact⟨(by first|rfl|(rw [hr];done)|(rw [hr];rfl)),(by first|exact c2|(rw [hr];exact c2))⟩
      ·have d2:=ieqF o
       refine Zk (Zm (Zt (Zs (Zgj [1] (Hla 0 0 0 76 (TBd.cells (⟨x.kd,0,0,dRq,none,0,[],dD32⟩:TBd)) a Hz) (Zu 1 0 (TBd.cells (⟨x.kd,0,0,dRq,none,0,[],dD32⟩:TBd)) a fun f0 c3=>Lo (Ld (Lt (Le (Dz (Zra 1 c3 ?_))))))))))
       have hr:ownR x=(⟨x.kd,0,0,dRq,none,0,[],dD32⟩:TBd):=by rw [ownR,nI b,nI d,nI e,nI f,nI i,nI o]
       have c4:=c3.dr 3
       exact⟨(by first|rfl|(rw [hr];done)|(rw [hr];rfl)),(by first|exact c4|(rw [hr];exact c4))⟩
theorem own_q (x:TBd):(ownR x).qa=x.qa∧(ownR x).ql=x.ql∨(ownR x).qa=none∧(ownR x).ql=[]:=by
 unfold ownR
 repeat' split
 all_goals first|exact .inr ⟨rfl,rfl⟩|exact .inl ⟨rfl,rfl⟩
theorem own_rows {w:World}{x:TBd}(h:RowsAt w x.qa x.ql.length 2 (fun k=>TPr.cells (x.ql.getD k dPr))):RowsAt w (ownR x).qa (ownR x).ql.length 2 (fun k=>TPr.cells ((ownR x).ql.getD k dPr)):=by
 rcases own_q x with⟨a,b⟩|⟨a,b⟩
 ·rw [a,b];exact h
 ·rw [a,b];exact RowsAt.nil _ _ _
theorem ownQ_len {x:TBd}{n:Nat}(h:x.ql.length≤n):(ownR x).ql.length≤n:=by
 rcases own_q x with⟨b,a⟩|⟨b,a⟩
 ·rw [a];exact h
 ·rw [a];exact Nat.zero_le _
def bodyR (x:TBd):Bool :=
 if same8B (ownR x) x=false then false else if x.vw ≥ 1073741824 then false
 else if x.kd=1 then askedB x.rq else if x.kd=2 then decide (x.k ≥ 1) && decide (x.k≤4611686018427387904)
 else if x.kd=6 then decide (x.k ≥ 1) && decide (x.k≤4611686018427387904) else if x.kd=3 then decide (x.vw ≥ 1) else if x.kd=5 then decide (x.vw ≥ 1)
 else if x.kd=4 then quorI 0 x.ql && (decide (x.vw ≥ 1) && decide ((x.ql.length:Int) ≥ 1)) else false
theorem quStep {rp nm was prev:Int}{k:Nat}(h1:k=0→was=0) (h2:0<k→1≤was∧was=prev):(((((decide (rp<1)) || (decide (rp>11))) || ((decide ((k:Int)>0)) && (decide (rp≤prev)))) || (decide (nm<1))) || (decide (nm>65536)))=decide (rp≤was∨rp>11∨nm<1∨nm>65536):=by
 rw [Bool.eq_iff_iff]
 simp only [Bool.or_eq_true,Bool.and_eq_true,decide_eq_true_eq]
 by_cases hk:k=0
 ·have:=h1 hk;omega
 ·have:=h2 (by omega);omega
theorem rbody_spec (x) (hx:BdOK x) (hr:Rw w0 L TPr.cells 2 dPr x.qa x.ql) (hs:St w0 (L) w):Cs Tryz.prog 35 #[.agg (TBd.cells x)] w fun rv w'=>rv=.bool (bodyR x)∧St w0 (L) w':=by
 refine Zen Tryz.func35 Tryz.ntmps35 (Zs ?_)
 have hqn:=hx.qn
 refine Zg [0] (Zbg (TBd.cells x) hs fun f w2 d2=>Lz (Ls (Ls (Dz (ZD (rds [0,2] (.ef 1 (.ef 3 (rds [4,5,6,7,8,9] .done)))) d2 fun w4 c0 g8=>Zj (Hla 0 0 0 76 (TBd.cells x) c0 (Hla 2 0 0 76 (TBd.cells x) c0 Hz)) (Zc1 (own_spec x c0) fun w9 c6=>⟨(opl (n:=[.prop (Array.size (TBd.cells x)=76),.cells ⟨f,0,none⟩ (TBd.cells x)]) (by kernel_rfl) (okp (by kernel_rfl) (oka (c6.cells 0 0 rfl (by kernel_rfl)) ok0))),(Zc1 (sameBody8_spec (ownR x) x (ownQ_len hx.qn) (fun w h=>own_rows (hr _ (h.drop 1))) (fun w h=>hr _ (h.drop 1)) c6) fun d3 e=>Lo (Dz (Zr 4 2 [] (Zsq 10 (!(same8B (ownR x) x)) (fun b=>?_) (fun b=>?_)))))⟩))))))
 ·have d:=notT b
  exact En (Lud (Lt (LT (Lq (Le (Ly (Dz (Zq1 (v:=.bool false) ⟨(by unfold bodyR;rw [if_pos (by simpa using b)]),(e.dr 1)⟩))))))))
 ·have d:=notF b
  refine Zjd (Hl 7 0 1 e Hz) (Zt (Zi ((x.vw:Int) ≥ 1073741824) (fun a0=>?_) (fun a0=>?_)))
  ·exact En (Lq (Le (Ly (Dz (Zq1 (v:=.bool false) ⟨(by unfold bodyR;rw [if_neg (by simpa using b),if_pos a0]),(e.dr 1)⟩)))))
  ·refine Zk (Zt (Zs (Zs (Zaj (Hl 1 0 0 e Hz) (En (Lt (Lb (Lq (Dz (Zqc (t:=(x.kd:Int) == 1) (fun c1=>?_) (fun c1=>?_)))))))))))
   ·exact Zs (Zgj [2] (Hla 1 0 3 40 (TRq.cells x.rq) e Hz) (Zc1 (rasked_spec x.rq e) fun h1 d6=>Lz (Le (Ll (Ly (Dz (Zq1 (v:=.bool (askedR x.rq)) ⟨(by unfold bodyR;rw [if_neg (by simpa using b),if_neg a0,if_pos (ieqT c1)];rw [askedR_eq]),(d6.dr 1)⟩)))))))
   ·have a4:=ieqF c1
    refine En (Ls (Lq (Dz (Zqc (t:=(x.kd:Int) == 2) (fun b7=>?_) (fun b7=>?_)))))
    ·refine Zk (Zt (Zqc (t:=(x.kd:Int) == 2) (fun _=>Zs (GoC.join (T:=Unit) (E:=fun _=>[(2,.bool ((decide ((x.k:Int) ≥ 1)) && (decide ((x.k:Int)≤4611686018427387904))))]) (F:=fun _ w=>St w0 ((Cel f (TBd.cells x) 37)::L) w) ?_ ?_)) (fun hc=>absurd (b7.symm.trans hc) (by decide))))
     ·refine Zg [] (Zpj 0 4 (Hl 1 0 2 e Hz) (Zsq 28 (decide ((x.k:Int) ≥ 1)) (fun b2=>?_) (fun b2=>?_)))
      ·exact Zjd (Hl 5 0 2 e Hz) (Zmb [2] () (decide ((x.k:Int)≤4611686018427387904)) (by first|rfl|simp [Hb,b,d,b2]) e)
      ·exact En (Lud (Dz (Zmb [2] () false (by first|rfl|simp [Hb,b,d,b2]) e)))
     intro _ h2 d9
     exact Zt (Ze (Zl (Zy (Zq1 (v:=.bool ((decide ((x.k:Int) ≥ 1)) && (decide ((x.k:Int)≤4611686018427387904)))) ⟨(by unfold bodyR;rw [if_neg (by simpa using b),if_neg a0,if_neg a4,if_pos (ieqT b7)]),(d9.dr 1)⟩))))
    ·have a6:=ieqF b7
     refine Za (Zt (Zqc (t:=(x.kd:Int) == 6) (fun c2=>?_) (fun c2=>?_)))
     ·refine Zs (GoC.join (T:=Unit) (E:=fun _=>[(2,.bool ((decide ((x.k:Int) ≥ 1)) && (decide ((x.k:Int)≤4611686018427387904))))]) (F:=fun _ w=>St w0 ((Cel f (TBd.cells x) 37)::L) w) ?_ ?_)
      ·refine Zg [] (Zpj 0 4 (Hl 1 0 2 e Hz) (Zsq 28 (decide ((x.k:Int) ≥ 1)) (fun b3=>?_) (fun b3=>?_)))
       ·exact Zjd (Hl 5 0 2 e Hz) (Zmb [2] () (decide ((x.k:Int)≤4611686018427387904)) (by first|rfl|simp [Hb,b,d,b3]) e)
       ·exact En (Lud (Dz (Zmb [2] () false (by first|rfl|simp [Hb,b,d,b3]) e)))
      intro _ h3 e2
      exact Zt (Ze (Zl (Zy (Zq1 (v:=.bool ((decide ((x.k:Int) ≥ 1)) && (decide ((x.k:Int)≤4611686018427387904)))) ⟨(by unfold bodyR;rw [if_neg (by simpa using b),if_neg a0,if_neg a4,if_neg a6,if_pos (ieqT c2)]),(e2.dr 1)⟩))))
     ·have a7:=ieqF c2
      refine En (Ls (Lq (Dz (Zqc (t:=(x.kd:Int) == 3) (fun b8=>?_) (fun b8=>?_)))))
      ·exact Zk (Zt (Zqc (t:=(x.kd:Int) == 3) (fun _=>Zs (Zaj (Hl 1 0 1 e Hz) (Zt (Ze (Zl (Zy (Zq1 (v:=.bool (decide ((x.vw:Int) ≥ 1))) ⟨(by unfold bodyR;rw [if_neg (by simpa using b),if_neg a0,if_neg a4,if_neg a6,if_neg a7,if_pos (ieqT b8)]),(e.dr 1)⟩))))))) (fun hc=>absurd (b8.symm.trans hc) (by decide))))
      ·have b0:=ieqF b8
       refine Za (Zt (Zqc (t:=(x.kd:Int) == 5) (fun c3=>?_) (fun c3=>?_)))
       ·exact Zs (Zaj (Hl 1 0 1 e Hz) (Zt (Ze (Zl (Zy (Zq1 (v:=.bool (decide ((x.vw:Int) ≥ 1))) ⟨(by unfold bodyR;rw [if_neg (by simpa using b),if_neg a0,if_neg a4,if_neg a6,if_neg a7,if_neg b0,if_pos (ieqT c3)]),(e.dr 1)⟩))))))
       ·have b4:=ieqF c3
        refine En (Lq (Dz (Zqc (t:=(x.kd:Int) == 4) (fun c4=>?_) (fun c4=>?_))))
        ·have b9:=ieqT c4
         refine En (Ls (Lq (Lb (Dz ?_))))
         obtain⟨c7,c8⟩:∃ a,a=x.qa:=⟨_,rfl⟩
         have e6:St w0 ((Cel f (TBd.cells (⟨x.kd,x.vw,x.k,x.rq,c7,x.qc,x.ql,x.dg⟩:TBd)) 37)::L) d3:=(by rw [c8];exact e)
         refine GoC.loop (T:=Nat×Int×(Option Addr)) (fun gg=>[(1,zP f 0),(3,.int .i64 (gg.1:Nat))]) (fun gg w=>(gg.1≤x.ql.length∧quorI 0 x.ql=quorI gg.2.1 (x.ql.drop gg.1)∧(gg.1=0→gg.2.1=0)∧(0<gg.1→1≤gg.2.1∧gg.2.1=(x.ql.getD (Int.toNat ((gg.1:Nat)-1)) dPr).rp)∧∀ w,St w0 L w→RowsAt w gg.2.2 x.ql.length 2 (fun q=>TPr.cells (x.ql.getD q dPr)))∧St w0 ((Cel f (TBd.cells (⟨x.kd,x.vw,x.k,x.rq,gg.2.2,x.qc,x.ql,x.dg⟩:TBd)) 37)::L) w) (fun gg=>x.ql.length-gg.1) (0,0,c7) [1,3] (by kernel_rfl) ⟨⟨Nat.zero_le _,rfl,fun _=>rfl,fun h9=>absurd h9 (Nat.lt_irrefl 0),by rw [c8];exact hr⟩,e6⟩ ?_
         rintro⟨k,was,aq⟩ h4 ⟨hp,a1⟩
         dsimp only at hp a1
         have hw:=hp.2.2.2.2
         refine Zs (Zs (Zaj (Hl 2 0 43 a1 Hz) (Zt (Zi ((k:Int)<(x.ql.length:Nat)) (fun e7=>?_) (fun e7=>?_)))))
         ·have hk:k<x.ql.length:=by omega
          obtain⟨a2,a3,rfl⟩:=RowsAt.isSome (hw _ (a1.drop 1)) (by omega)
          refine Zk (Zt (Zs (Zb (Zs (Zgj [5,6] (Hl 1 0 43 a1 (Hx 3 (k:Int) (x.ql.length:Int) a2 a3 2 (Hg 4 (.agg (TPr.cells (x.ql.getD k dPr))) [.prop (Array.size (TPr.cells (x.ql.getD k dPr))=2),.cells ⟨a2,a3+(k*2),none⟩ (TPr.cells (x.ql.getD k dPr))] (okp (by kernel_rfl) (oka (RowsAt.all0 (hw _ (a1.drop 1)) (by first|omega|(simp only [List.length_set];omega)|(simp only [List.length_set,lA,lC,lN];omega)) (Nat.le_of_ble_eq_true (by kernel_rfl)) (by kernel_rfl)) ok0)) Hz))) (Zag (TPr.cells dPr) a1 fun c9 h5 e8=>Lo (Dz (Zu 0 0 (TPr.cells (x.ql.getD k dPr)) e8 fun h6 e9=>Lo (Ld (Lt (Ls (Dz (GoC.join (T:=Unit) (E:=fun _=>[(86,.bool (((((decide (((x.ql.getD k dPr).rp:Int)<1)) || (decide (((x.ql.getD k dPr).rp:Int)>11))) || ((decide ((k:Int)>0)) && (decide (((x.ql.getD k dPr).rp:Int)≤((x.ql.getD (Int.toNat ((k:Nat)-1)) dPr).rp))))) || (decide (((x.ql.getD k dPr).nm:Int)<1))) || (decide (((x.ql.getD k dPr).nm:Int)>65536)))),(1,zP f 0),(3,.int .i64 (k:Nat))]) (F:=fun _ w=>St w0 ((Cel c9 (TPr.cells (x.ql.getD k dPr)) 143)::(Cel f (TBd.cells (⟨x.kd,x.vw,x.k,x.rq,(some ⟨a2,a3,none⟩),x.qc,x.ql,x.dg⟩:TBd)) 37)::L) w) ?_ ?_)))))))))))))
          ·refine ZD (rds [0,1,2,3,4,5,6,7,8,9,10,11,12,13,14,15,16,17,18,19,20,21,22,23,24,25,26,27,28,29,30,31,32,33] .done) e9 fun h7 o h8=>Zpj 0 4 (Hl 1 0 0 o Hz) (Zsq 56 (decide (((x.ql.getD k dPr).rp:Int)<1)) (fun i=>?_) (fun i=>?_))
           ·have f0:=of_decide_eq_true i
            exact En (Lud (Dz (GoQ.pick [86,1,3] (S':=[(86,.bool true),(1,zP f 0),(3,.int .i64 (k:Nat))]) (by kernel_rfl) (GoQ.meet1 () (by first|rfl|(simp only [b,d,i,Bool.not_true,Bool.not_false,Bool.true_or,Bool.false_or,Bool.true_and,Bool.false_and,Bool.or_true,Bool.or_false,Bool.and_true,Bool.and_false];done)|(simp [b,d,i];done)) o))))
           ·have f0:=of_decide_eq_false i
            refine Zpj 4 5 (Hl 5 0 0 o Hz) (Zsq 61 (decide (((x.ql.getD k dPr).rp:Int)>11)) (fun u=>?_) (fun u=>?_))
            ·have f1:=of_decide_eq_true u
             exact En (Lud (Dz (GoQ.pick [86,1,3] (S':=[(86,.bool true),(1,zP f 0),(3,.int .i64 (k:Nat))]) (by kernel_rfl) (GoQ.meet1 () (by first|rfl|(simp only [b,d,i,u,Bool.not_true,Bool.not_false,Bool.true_or,Bool.false_or,Bool.true_and,Bool.false_and,Bool.or_true,Bool.or_false,Bool.and_true,Bool.and_false];done)|(simp [b,d,i,u];done)) o))))
            ·have f1:=of_decide_eq_false u
             refine Zr 9 3 [] (Zsq 64 (decide ((k:Int)>0)) (fun z=>?_) (fun z=>?_))
             ·have f2:=of_decide_eq_true z
              refine Zp 12 13 [(13,.gen [.int .i64 ((x.ql.getD k dPr).rp)]),(15,.gen [zL a2 a3 x.ql.length x.qc]),(17,.as_ (.int .i64 ((k:Nat)-1)) (.gen [])),(18,.as_ (zP a2 (a3+((Int.toNat ((k:Nat)-1))*2))) .at_),(20,.gen [.int .i64 ((x.ql.getD (Int.toNat ((k:Nat)-1)) dPr).rp)])] [(13,[.cell ⟨c9,0,none⟩ (.int .i64 ((x.ql.getD k dPr).rp))]),(15,[.cell ⟨f,43,none⟩ (zL a2 a3 x.ql.length x.qc)]),(17,[.prop (Value.int .i64 (IntKind.i64.wrap ((k:Nat)-1))=Value.int .i64 ((k:Nat)-1))]),(18,[.prop (0≤(((k:Nat)-1):Int)∧(((k:Nat)-1):Int)<(x.ql.length:Int)),.prop (Value.pointer (some (Addr.add ⟨a2,a3,none⟩ (Int.toNat ((k:Nat)-1)*2)))=Value.pointer (some ⟨a2,a3+((Int.toNat ((k:Nat)-1))*2),none⟩))]),(20,[.cell ⟨a2,a3+((Int.toNat ((k:Nat)-1))*2),none⟩ (.int .i64 ((x.ql.getD (Int.toNat ((k:Nat)-1)) dPr).rp))])] (ak (okc (o.cell 0 rfl (by kernel_rfl)) ok0) (ak (okc (o.cell 1 rfl (by kernel_rfl)) ok0) (ak (okp (i64ok (by omega) (by omega)) ok0) (ak (okp (by omega) (okp (ptrAdd _ _ _) ok0)) (ak (okc (RowsAt.at0 (hw _ (o.drop 2)) (k:=(Int.toNat ((k:Nat)-1))) (by first|omega|(simp only [List.length_set];omega)|(simp only [List.length_set,lA,lC,lN];omega)) (j:=0) (by decide) (by kernel_rfl)) ok0) ak0))))) (Zsq 77 (decide (((x.ql.getD k dPr).rp:Int)≤((x.ql.getD (Int.toNat ((k:Nat)-1)) dPr).rp))) (fun a5=>?_) (fun a5=>?_))
              ·exact En (Lud (Dz (GoQ.pick [86,1,3] (S':=[(86,.bool true),(1,zP f 0),(3,.int .i64 (k:Nat))]) (by kernel_rfl) (GoQ.meet1 () (by first|rfl|(simp only [b,d,i,u,z,a5,Bool.not_true,Bool.not_false,Bool.true_or,Bool.false_or,Bool.true_and,Bool.false_and,Bool.or_true,Bool.or_false,Bool.and_true,Bool.and_false];done)|(simp [b,d,i,u,z,a5];done)) o))))
              ·refine Zpj 25 5 (Hl 26 0 1 o Hz) (Zsq 82 (decide (((x.ql.getD k dPr).nm:Int)<1)) (fun a8=>?_) (fun a8=>?_))
               ·exact En (Lud (Dz (GoQ.pick [86,1,3] (S':=[(86,.bool true),(1,zP f 0),(3,.int .i64 (k:Nat))]) (by kernel_rfl) (GoQ.meet1 () (by first|rfl|(simp only [b,d,i,u,z,a5,a8,Bool.not_true,Bool.not_false,Bool.true_or,Bool.false_or,Bool.true_and,Bool.false_and,Bool.or_true,Bool.or_false,Bool.and_true,Bool.and_false];done)|(simp [b,d,i,u,z,a5,a8];done)) o))))
               ·exact Zjd (Hl 31 0 1 o Hz) (GoQ.pick [86,1,3] (S':=[(86,.bool (decide (((x.ql.getD k dPr).nm:Int)>65536))),(1,zP f 0),(3,.int .i64 (k:Nat))]) (by kernel_rfl) (GoQ.meet1 () (by first|rfl|(simp only [b,d,i,u,z,a5,a8,Bool.not_true,Bool.not_false,Bool.true_or,Bool.false_or,Bool.true_and,Bool.false_and,Bool.or_true,Bool.or_false,Bool.and_true,Bool.and_false];done)|(simp [b,d,i,u,z,a5,a8];done)) o))
             ·refine Zpj 12 18 (Hl 26 0 1 o Hz) (Zsq 82 (decide (((x.ql.getD k dPr).nm:Int)<1)) (fun a9=>?_) (fun a9=>?_))
              ·exact En (Lud (Dz (GoQ.pick [86,1,3] (S':=[(86,.bool true),(1,zP f 0),(3,.int .i64 (k:Nat))]) (by kernel_rfl) (GoQ.meet1 () (by first|rfl|(simp only [b,d,i,u,z,a9,Bool.not_true,Bool.not_false,Bool.true_or,Bool.false_or,Bool.true_and,Bool.false_and,Bool.or_true,Bool.or_false,Bool.and_true,Bool.and_false];done)|(simp [b,d,i,u,z,a9];done)) o))))
              ·exact Zjd (Hl 31 0 1 o Hz) (GoQ.pick [86,1,3] (S':=[(86,.bool (decide (((x.ql.getD k dPr).nm:Int)>65536))),(1,zP f 0),(3,.int .i64 (k:Nat))]) (by kernel_rfl) (GoQ.meet1 () (by first|rfl|(simp only [b,d,i,u,z,a9,Bool.not_true,Bool.not_false,Bool.true_or,Bool.false_or,Bool.true_and,Bool.false_and,Bool.or_true,Bool.or_false,Bool.and_true,Bool.and_false];done)|(simp [b,d,i,u,z,a9];done)) o))
          intro _ i0 d0
          refine Zt (Zqc (t:=((((decide (((x.ql.getD k dPr).rp:Int)<1)) || (decide (((x.ql.getD k dPr).rp:Int)>11))) || ((decide ((k:Int)>0)) && (decide (((x.ql.getD k dPr).rp:Int)≤((x.ql.getD (Int.toNat ((k:Nat)-1)) dPr).rp))))) || (decide (((x.ql.getD k dPr).nm:Int)<1))) || (decide (((x.ql.getD k dPr).nm:Int)>65536))) (fun b5=>?_) (fun b5=>?_))
          ·exact En (Lq (Le (Ll (Ly (LsR (Ll (Ly (Ll (Ly (Dz (Zq1 (v:=.bool false) ⟨(by unfold bodyR;rw [if_neg (by simpa using b),if_neg a0,if_neg a4,if_neg a6,if_neg a7,if_neg b0,if_neg b4,if_pos b9];rw [hp.2.1,quorI_at hk,if_pos (of_decide_eq_true ((quStep hp.2.2.1 hp.2.2.2.1).symm.trans b5))];rfl),(d0.dr 2)⟩)))))))))))
          ·have d1:=(Bool.or_eq_false_iff.1 b5).1
           have h60aa:=(Bool.or_eq_false_iff.1 d1).1
           have h60aaa:=(Bool.or_eq_false_iff.1 h60aa).1
           have h60aaaa:=(Bool.or_eq_false_iff.1 h60aaa).1
           have h60aaaa':=of_decide_eq_false h60aaaa
           have h60aaab:=(Bool.or_eq_false_iff.1 h60aaa).2
           have h60aaab':=of_decide_eq_false h60aaab
           have h60ab:(decide (((x.ql.getD k dPr).nm:Int)<1))=false:=(Bool.or_eq_false_iff.1 d1).2
           have h60ab':=of_decide_eq_false h60ab
           have f7:=(Bool.or_eq_false_iff.1 b5).2
           exact Zk (Zm (Zt (Zaj (Hwi 1 ((k:Nat)+1) Hz) (GoQ.back (k+1,((x.ql.getD k dPr).rp),some ⟨a2,a3,none⟩) [1,3] (by kernel_rfl) (by show x.ql.length-(k+1)<x.ql.length-k;omega) ⟨⟨by omega,by rw [hp.2.1,quorI_at hk,if_neg (of_decide_eq_false ((quStep hp.2.2.1 hp.2.2.2.1).symm.trans b5))],fun h9=>by omega,fun h9=>⟨by show 1≤(x.ql.getD k dPr).rp;omega,by rw [show Int.toNat (((k+1:Nat):Int)-1)=k from by omega]⟩,hw⟩,(d0.dr 1)⟩))))
         ·have hke:x.ql.drop k=[]:=List.drop_of_length_le (by omega)
          refine Zx (GoQ.skipC (GoQ.skipL (GoQ.hit (Zt (Zs (GoC.join (T:=Unit) (E:=fun _=>[(2,.bool ((decide ((x.vw:Int) ≥ 1)) && (decide ((x.ql.length:Int) ≥ 1))))]) (F:=fun _ w=>St w0 ((Cel f (TBd.cells (⟨x.kd,x.vw,x.k,x.rq,aq,x.qc,x.ql,x.dg⟩:TBd)) 37)::L) w) ?_ ?_))))))
          ·refine Zg [] (Zpj 0 4 (Hl 1 0 1 a1 Hz) (Zsq 90 (decide ((x.vw:Int) ≥ 1)) (fun b6=>?_) (fun b6=>?_)))
           ·exact Zjd (Hl 5 0 43 a1 Hz) (Zmb [2] () (decide ((x.ql.length:Int) ≥ 1)) (by first|rfl|simp [Hb,b,d,b6]) a1)
           ·exact En (Lud (Dz (Zmb [2] () false (by first|rfl|simp [Hb,b,d,b6]) a1)))
          intro _ i2 g0
          exact Zt (Ze (Zl (Zy (Zq1 (v:=.bool ((decide ((x.vw:Int) ≥ 1)) && (decide ((x.ql.length:Int) ≥ 1)))) ⟨(by unfold bodyR;rw [if_neg (by simpa using b),if_neg a0,if_neg a4,if_neg a6,if_neg a7,if_neg b0,if_neg b4,if_pos b9];rw [hp.2.1,hke];rfl),(g0.dr 1)⟩))))
        ·exact En (Lk (Lm (Lt (Lq (Le (Dz (Zq1 (v:=.bool false) ⟨(by unfold bodyR;rw [if_neg (by simpa using b),if_neg a0,if_neg a4,if_neg a6,if_neg a7,if_neg b0,if_neg b4,if_neg (ieqF c4)]),(e.dr 1)⟩)))))))
end
theorem tk_app {n:Nat}{l e:List Int}(h:l.length=n):tk n (l++e,false)=(l,(e,false)):=by
 rw [tk_ok rfl (by rw [lA];omega),List.take_left' h,List.drop_left' h]
theorem word_app {n:Int}{e:List Int}(h:0≤n∧n<18446744073709551616):wordP (wd n++e,false)=(n,(e,false)):=by
 unfold wordP numP
 rw [tk_app (wd_length n),numB_wd h]
theorem byte_app {n:Int}{e:List Int}(h:0≤n∧n<256):byteP (n::e,false)=(n,(e,false)):=by
 unfold byteP
 rw [show n::e=[n]++e from rfl,tk_app (n:=1) (l:=[n]) rfl,numB_one h,u8_id h]
theorem half_app {n:Nat}{e:List Int}(h:n<65536):halfP (hf (n:Nat)++e,false)=(n,(e,false)):=by
 unfold halfP
 rw [tk_app (hf_length _),numB_hf ⟨by omega,by omega⟩,u16_id ⟨by omega,by omega⟩,Int.toNat_natCast]
theorem strB_len (s:ByteArray):(strB s).length=s.size:=by
 have h:=tx_length s
 unfold tx at h
 rw [lA,hf_length] at h
 omega
theorem text_app {most:Int}{s:ByteArray}{e:List Int}(h:(s.size:Int)≤most) (h2:s.size<65536):textP most (tx s++e,false)=(s,(e,false)):=by
 unfold tx
 rw [List.append_assoc]
 rw [textP_ok (half_app h2) h (by rw [lA,strB_len];omega),List.take_left' (strB_len s),List.drop_left' (strB_len s),strOf_strB]
theorem hash_app {d:D32}{e:List Int}:hashP (d.toList++e,false)=(d,(e,false)):=by
 unfold hashP
 rw [tk_app (D32.len d),vecL_toList]
theorem words_app {f:List Int}(hf:∀ x∈f,0≤x∧x≤18446744073709551615) (e:List Int):∀ k,k≤f.length→stW (f.flatMap wd++e,false) k=((f.drop k).flatMap wd++e,false)
 | 0,_=>rfl
 | k+1,h=>by
  show(wordP (stW _ k)).2=_
  have hx:=hf _ (List.getElem_mem (show k<f.length by omega))
  rw [words_app hf e k (by omega),List.drop_eq_getElem_cons (by omega),List.flatMap_cons,List.append_assoc,word_app ⟨hx.1,by omega⟩]
theorem words_val {f:List Int}(hf:∀ x∈f,0≤x∧x≤18446744073709551615) (e:List Int){k:Nat}(h:k<f.length):valW (f.flatMap wd++e,false) k=f[k]:=by
 have hx:=hf _ (List.getElem_mem h)
 unfold valW
 rw [words_app hf e k (by omega),List.drop_eq_getElem_cons h,List.flatMap_cons,List.append_assoc,word_app ⟨hx.1,by omega⟩]
theorem vec_app {v:VecD}(hv:∀ x∈v.toList,0≤x∧x≤18446744073709551615) (e:List Int):vecF (valW (v.toList.flatMap wd++e,false)) 11=v:=by
 apply Vector.ext
 intro i hi
 unfold vecF
 rw [Vector.getElem_ofFn]
 simp only [hi,if_true]
 rw [words_val hv e (by rw [VecD.len];exact hi),Vector.getElem_toList]
theorem vec_end {v:VecD}(hv:∀ x∈v.toList,0≤x∧x≤18446744073709551615) (e:List Int):stW (v.toList.flatMap wd++e,false) 11=(e,false):=by
 rw [words_app hv e 11 (by rw [VecD.len];omega),List.drop_of_length_le (by rw [VecD.len];omega)]
 rfl
theorem rq_app {r:TRq}{e:List Int}(h:askedB r=true) (hr:RqOK r):rqP (rqB r++(r.tg.toList++e),false)=(r,(e,false)):=by
 have a:=hr.kd
 have b:=hr.am
 unfold askedB at h
 simp only [Bool.and_eq_true,decide_eq_true_eq] at h
 obtain⟨⟨⟨⟨⟨d,f⟩,i⟩,o⟩,q⟩,u⟩:=h
 unfold rqP rqB
 have ec:IntKind.u8.wrap r.cl=r.cl:=u8_id (by omega)
 simp only [List.append_assoc,List.cons_append,List.nil_append,ec]
 rw [byte_app (by omega)]
 simp only []
 rw [byte_app (by omega)]
 simp only []
 rw [word_app (by omega)]
 simp only []
 rw [word_app (by omega)]
 simp only []
 rw [text_app (by omega) (by omega)]
 simp only []
 rw [text_app (by omega) (by omega)]
 simp only []
 rw [text_app (by omega) (by omega)]
 simp only []
 rw [text_app (by omega) (by omega)]
 simp only []
 rw [hash_app]
theorem prs_app (e:List Int):∀ (l q:List TPr),(∀ p∈l,(0≤p.rp∧p.rp<256)∧(0≤p.nm∧p.nm<18446744073709551616))→prsP l.length (l.flatMap prB++e,false) q=(q++l,(e,false))
 | [],q,_=>by rw [List.append_nil];rfl
 | p::l,q,h=>by
  obtain⟨h1,h2⟩:=h p (List.mem_cons_self ..)
  rw [lC,List.flatMap_cons]
  rw [show prB p=p.rp::wd p.nm from by unfold prB;rw [u8_id h1];rfl,List.cons_append,List.cons_append,List.append_assoc]
  rw [prsP_step rfl (byte_app h1) (word_app h2),prs_app e l _ fun x hx=>h x (List.mem_cons_of_mem _ hx),List.append_assoc]
  rfl
theorem quorI_in:∀ (l:List TPr) (was:Int),0≤was→quorI was l=true→∀ p∈l,(0≤p.rp∧p.rp<256)∧(0≤p.nm∧p.nm<18446744073709551616)
 | [],_,_,_,p,hp=>by cases hp
 | a::l,was,hw,h,p,hp=>by
  unfold quorI at h
  split at h
  ·cases h
  ·rcases List.mem_cons.1 hp with rfl|hp
   ·exact⟨by omega,by omega⟩
   ·exact quorI_in l a.rp (by omega) h p hp
theorem getB_own {x:TBd}(hk:1≤x.kd∧x.kd≤6) (hx:BdOK x) (hm:mayB x=true) (hq:x.ql.length≤11):getB x.kd (bdB x,false)=(con (ownR x),([],false)):=by
 have o:=hx.vw
 have q:=hx.k
 unfold getB bdB
 by_cases a:x.kd=1
 ·rw [if_pos a,if_pos a,show ownR x=⟨x.kd,x.vw,0,x.rq,none,0,[],dD32⟩ from by simp [ownR,a]]
  unfold mayB at hm
  rw [if_pos a] at hm
  have e:=rq_app (e:=[]) hm hx.rq
  rw [List.append_nil] at e
  unfold g1 bd1
  simp only []
  rw [word_app (by omega)]
  simp only []
  rw [e,a]
  rfl
 rw [if_neg a,if_neg a]
 by_cases f:x.kd=2
 ·rw [if_pos f,if_pos f,show ownR x=⟨x.kd,x.vw,x.k,dRq,none,0,[],dD32⟩ from by simp [ownR,f]]
  unfold g2 bd2
  simp only []
  have e:=word_app (n:=x.k) (e:=[]) (by omega)
  rw [List.append_nil] at e
  rw [word_app (by omega)]
  simp only []
  rw [e,f]
  rfl
 rw [if_neg f,if_neg f]
 by_cases b:x.kd=4
 ·rw [if_pos b,if_pos b,show ownR x=⟨x.kd,x.vw,0,dRq,x.qa,x.qc,x.ql,dD32⟩ from by simp [ownR,b]]
  unfold mayB at hm
  rw [if_neg a,if_neg (by omega),if_pos b,Bool.and_eq_true] at hm
  unfold quorB at hm
  rw [Bool.and_eq_true] at hm
  unfold g4 bd4
  simp only []
  rw [word_app (by omega)]
  simp only []
  rw [u8_id (by omega),List.cons_append,List.nil_append,byte_app (by omega)]
  simp only [Int.toNat_natCast]
  have e:=prs_app [] x.ql [] (quorI_in x.ql 0 (by omega) hm.2.1)
  rw [List.append_nil] at e
  rw [e,b]
  rfl
 rw [if_neg b,if_neg b]
 by_cases i:x.kd=6
 ·rw [if_pos i,if_pos i,show ownR x=⟨x.kd,0,x.k,dRq,none,0,[],x.dg⟩ from by simp [ownR,i]]
  unfold g6 bd6
  simp only []
  have e:=hash_app (d:=x.dg) (e:=[])
  rw [List.append_nil] at e
  rw [word_app (by omega)]
  simp only []
  rw [e,i]
  rfl
 ·rw [if_neg i,if_neg i,show ownR x=⟨x.kd,x.vw,0,dRq,none,0,[],dD32⟩ from by rcases(by omega:x.kd=3∨x.kd=5) with c|c<;>simp [ownR,c]]
  unfold g3
  simp only []
  have e:=word_app (n:=x.vw) (e:=[]) (by omega)
  rw [List.append_nil] at e
  rw [e]
  rfl
theorem getB_end {x:TBd}(hk:1≤x.kd∧x.kd≤6) (hx:BdOK x) (hm:mayB x=true) (hq:x.ql.length≤11):(getB x.kd (bdB x,false)).2=([],false):=by rw [getB_own hk hx hm hq]
theorem getB_con (kd:Int) (s:CS):con (getB kd s).1=(getB kd s).1:=by
 unfold getB
 repeat' split
 all_goals rfl
theorem sameB_in {x y:TBd}(h:sameB x y=true):con x=con y:=by
 unfold sameB at h
 obtain⟨a,h⟩:=peel2 h
 obtain⟨b,h⟩:=peel2 h
 obtain⟨d,h⟩:=peel2 h
 obtain⟨e,h⟩:=peel2 h
 obtain⟨f,h⟩:=peel2 h
 simp only [beq_iff_eq,decide_eq_true_eq] at a b d e f h
 unfold con
 rw [a,b,d,e,f,h]
theorem getB_bdB {x:TBd}(h:bodyB x=true) (hx:BdOK x):getB x.kd (bdB x,false)=(con x,([],false)):=by
 obtain⟨hk,hm,hq⟩:=bodyB_in h
 unfold bodyB at h
 rw [if_pos hk] at h
 split at h
 ·cases h
 split at h
 ·cases h
 split at h
 ·cases h
 have a:=sameB_in h
 rw [getB_con] at a
 exact Prod.ext a.symm (getB_end hk hx hm hq)
theorem mayM_tag {m:TMs}(h:mayM m=true):(1≤m.og∧m.og≤11)∧(1≤m.nr∧m.nr≤65536):=by
 unfold mayM at h
 split at h
 ·cases h
 rename_i a
 unfold mayT at a
 simp only [Bool.or_eq_true,decide_eq_true_eq,not_or] at a
 omega
theorem tgB_eq {m:TMs}(h:mayM m=true):tgB m=m.og::(m.dp.toList.flatMap wd++(m.bd.kd::bdB m.bd)):=by
 have a:=mayM_tag h
 unfold tgB dpI
 rw [u8_id (by omega),List.take_of_length_le (by rw [VecD.len];omega)]
 simp only [List.append_assoc,List.cons_append,List.nil_append]
theorem getM_putM {m:TMs}(h:mayM m=true) (hm:MsOK m):getM (putM m)=(conM m,0):=by
 have hl:=tgB_length h
 obtain⟨w,x⟩:=mayM_tag h
 have hb:=mayM_body h
 obtain⟨hk,hmb,hq⟩:=bodyB_in hb
 have a:putM m=wd m.nr++(tgB m++m.tg.toList):=by
  unfold putM
  rw [if_pos h,List.nil_append,List.append_assoc]
 have el:(putM m).length=8+((tgB m).length+32):=by rw [a,lA,lA,wd_length,D32.len]
 have b:wordP (putM m,false)=(m.nr,(tgB m++m.tg.toList,false)):=by rw [a];exact word_app (by omega)
 have f:tk ((putM m).length-40) (tgB m++m.tg.toList,false)=(tgB m,(m.tg.toList,false)):=tk_app (by omega)
 have i:hashP (m.tg.toList,false)=(m.tg,([],false)):=by
  have e:=hash_app (d:=m.tg) (e:=[])
  rw [List.append_nil] at e
  exact e
 rw [getM_eq (by omega) b f i]
 have o:byteP (tgB m,false)=(m.og,(m.dp.toList.flatMap wd++(m.bd.kd::bdB m.bd),false)):=by rw [tgB_eq h];exact byte_app (by omega)
 have q:(tgB m).getD 0 0=m.og:=by rw [tgB_eq h];rfl
 have u:byteP (stW (m.dp.toList.flatMap wd++(m.bd.kd::bdB m.bd),false) 11)=(m.bd.kd,(bdB m.bd,false)):=by rw [vec_end hm.dp];exact byte_app (by omega)
 rw [ofM_in o u hk q.symm (getB_bdB hb hm.bd),vec_app hm.dp]
 simp only []
 rw [if_neg (by decide),if_neg (by decide),if_pos ?_]
 ·rfl
 ·show byB (conM m)=_
  rw [byB_con]
  unfold byB
  rw [if_pos h]
theorem car_app {m:TMs}{e:List Int}(h:mayM m=true) (hm:MsOK m):carP (loS (putM m)++e,false)=(conM m,true,(e,false)):=by
 have hl:=putM_len h
 unfold loS
 rw [List.append_assoc,carP_eq (half_app (by omega)) (tk_app rfl) (getM_putM h hm)]
 rfl
theorem ms_app (e:List Int):∀ (l q:List TMs),(∀ m∈l,mayM m=true∧MsOK m)→msP l.length (l.flatMap (fun m=>loS (putM m))++e,false) q=(q++l.map conM,true,(e,false))
 | [],q,_=>by rw [List.map_nil,List.append_nil];rfl
 | m::l,q,h=>by
  obtain⟨h1,h2⟩:=h m (List.mem_cons_self ..)
  rw [lC,List.flatMap_cons,List.append_assoc,msP_step (car_app h1 h2),ms_app e l _ fun x hx=>h x (List.mem_cons_of_mem _ hx),List.append_assoc]
  rfl
theorem pack_app {p:TPk}{e:List Int}(h:MayP p) (hk:∀ x∈p.kn.toList,0≤x∧x≤18446744073709551615) (hm:∀ m∈p.ml,MsOK m):packP (pkB p++e,false)=(conP p,true,(e,false)):=by
 have b:=h.fr
 have d:=h.tw
 have f:=h.ml
 have a:pkB p++e=p.fr::p.tw::(p.kn.toList.flatMap wd++((p.ml.length:Int)::(p.ml.flatMap (fun m=>loS (putM m))++e))):=by
  unfold pkB
  simp only [List.append_assoc,List.cons_append,List.nil_append]
 rw [a,packP_eq (byte_app (by omega)) (byte_app (by omega)) (by rw [vec_end hk];exact byte_app (by omega)) (ms_app e p.ml [] fun m hx=>⟨h.ms m hx,hm m hx⟩),vec_app hk]
 rfl
theorem noneB_in {x:TBd}(h:noneB x=true):con x=dBd:=by
 unfold noneB at h
 obtain⟨a,h⟩:=peel2 h
 obtain⟨b,h⟩:=peel2 h
 obtain⟨d,h⟩:=peel2 h
 obtain⟨e,h⟩:=peel2 h
 obtain⟨f,h⟩:=peel2 h
 simp only [beq_iff_eq,decide_eq_true_eq] at a b d e f h
 have i:x.ql=[]:=List.length_eq_zero_iff.1 (by omega)
 unfold con
 rw [a,b,d,e,i,h]
theorem emptyB_in {p:TPk}(h:emptyB p=true):conP p=dPk:=by
 unfold emptyB at h
 obtain⟨a,h⟩:=peel2 h
 obtain⟨b,h⟩:=peel2 h
 obtain⟨d,h⟩:=peel2 h
 simp only [beq_iff_eq,decide_eq_true_eq] at a b d h
 have e:p.ml=[]:=List.length_eq_zero_iff.1 (by omega)
 unfold conP
 rw [a,b,d,e]
 rfl
theorem numQ_of {v:Int}(h:-1≤v∧v≤1099511627776):numQ (v+1)=v:=by
 unfold numQ
 by_cases hv:v=-1
 ·subst hv;decide
 ·rw [show IntKind.u64.wrap (v+1-1)=v from by show(v+1-1) % 18446744073709551616=v;omega]
  exact i64w (by omega) (by omega)
def hdT (s:TSt):TSt:=⟨s.dw,s.cl,s.wh,s.j,s.k,s.n,s.op,dBd,dPk,s.tm,s.re,s.at_,none,0,s.pl⟩
theorem hd_app {s:TSt}(h:MayS s) (hs:StOK s) (e:List Int):hdP (hdS s++e)=⟨hdT s,(e,false)⟩:=by
 have a:=h.cl
 have b:=h.wh
 have d:=h.j
 have f:=h.k
 have i:=h.n
 have o:=h.ky
 have q:=h.va
 have u:=h.ol
 have w:=h.tx
 have x:=h.vl
 have z:=h.dw
 have b3:=h.er
 have b4:=h.pl
 have b5:=hs.kd
 have b6:=hs.am
 have b7:=hs.tm
 have b8:=hs.at_
 unfold hdP hdS h2S h1S hdT
 simp only [List.append_assoc,List.cons_append,List.nil_append]
 rw [byte_app (by omega)]
 simp only []
 rw [word_app (by omega)]
 simp only []
 rw [word_app (by omega)]
 simp only []
 rw [word_app (by omega)]
 simp only []
 rw [word_app (by omega)]
 simp only []
 rw [word_app (by omega)]
 simp only []
 rw [byte_app (by omega)]
 simp only []
 rw [word_app (by omega)]
 simp only []
 rw [text_app (by omega) (by omega)]
 simp only []
 rw [text_app (by omega) (by omega)]
 simp only []
 rw [text_app (by omega) (by omega)]
 simp only []
 rw [text_app (by omega) (by omega)]
 simp only []
 rw [word_app (by omega)]
 simp only []
 rw [word_app (by omega)]
 simp only []
 rw [byte_app (by omega)]
 simp only []
 rw [text_app (by omega) (by omega)]
 simp only []
 rw [byte_app (by omega)]
 simp only [Int.toNat_natCast]
 rw [tk_app rfl,numQ_of (by omega),numQ_of (by omega),numQ_of (by omega),numQ_of (by omega),numQ_of (by omega)]
theorem step_app {s:TSt}(h:mayS s=true) (hs:StOK s) (hm:∀ m∈s.pk.ml,MsOK m) (e:List Int):tlP (hdP (putS s++e))=(conS s,true,(e,false)):=by
 have hy:=mayS_in h
 have q:putS s=hdS s++tlS s:=if_pos h
 rw [q,List.append_assoc,hd_app hy hs]
 by_cases a:s.dw=14
 ·obtain⟨d,f⟩:=hy.lie a
  have o:=car_app (e:=e) d (car_ok hs.bd)
  have i:tlS s=loS (putM ⟨1,1,dVc,s.bd,dD32⟩):=if_pos a
  rw [i,tlP_14 (h:=⟨hdT s,_⟩) a o]
  unfold conS hdT
  rw [emptyB_in f]
  rfl
 by_cases b:s.dw=16
 ·obtain⟨d,f⟩:=hy.fake b
  have o:=pack_app (e:=e) (packedB_in f) hs.kn hm
  have i:tlS s=pkB s.pk:=(if_neg a).trans (if_pos b)
  rw [i,tlP_16 (h:=⟨hdT s,_⟩) b o]
  unfold conS hdT
  rw [noneB_in d]
 ·obtain⟨d,f⟩:=hy.els a b
  have i:tlS s=[]:=(if_neg a).trans (if_neg b)
  rw [i,List.nil_append,tlP_0 (h:=⟨hdT s,_⟩) a b]
  unfold conS hdT
  rw [noneB_in d,emptyB_in f]
theorem get_put {s:TSt}(h:mayS s=true) (hs:StOK s) (hm:∀ m∈s.pk.ml,MsOK m):getT (putS s)=(conS s,0):=by
 have e:=step_app h hs hm []
 rw [List.append_nil] at e
 unfold getT finT
 rw [e]
 simp only [mayS_con,h,putS_con,if_true]
 rfl
theorem putS_pos {s:TSt}(h:mayS s=true):0<(putS s).length∧(putS s).length≤12000:=by
 have hy:=mayS_in h
 have f:putS s=hdS s++tlS s:=if_pos h
 have o:=hdS_len h
 have q:0<(hdS s).length:=by
  unfold hdS h2S h1S
  simp only [lA,lC]
  omega
 rw [f,lA]
 by_cases b:s.dw=14
 ·have a:tlS s=loS (putM ⟨1,1,dVc,s.bd,dD32⟩):=if_pos b
  have e:=putM_len (hy.lie b).1
  rw [a,loS_length]
  omega
 by_cases d:s.dw=16
 ·have a:tlS s=pkB s.pk:=(if_neg b).trans (if_pos d)
  have hp:=packedB_in (hy.fake d).2
  have e:=ml_len hp.ms hp.ml s.pk.ml.length
  rw [List.take_length] at e
  have i:=kn_len (s:=s) (k:=11) (by omega)
  rw [List.take_of_length_le (by rw [VecD.len];omega)] at i
  rw [a]
  unfold pkB
  simp only [lA,lC,lN]
  omega
 ·have a:tlS s=[]:=(if_neg b).trans (if_neg d)
  rw [a,lN]
  omega
theorem same8B_in {x y:TBd}(h:same8B x y=true):con x=con y:=by
 unfold same8B at h
 obtain⟨a,h⟩:=peel2 h
 obtain⟨b,h⟩:=peel2 h
 obtain⟨d,h⟩:=peel2 h
 obtain⟨e,h⟩:=peel2 h
 obtain⟨f,h⟩:=peel2 h
 simp only [beq_iff_eq,decide_eq_true_eq] at a b d e f h
 unfold con
 rw [a,b,d,e,f,h]
theorem con_inj {x y:TBd}(h:con x=con y):x.kd=y.kd∧x.vw=y.vw∧x.k=y.k∧x.rq=y.rq∧x.ql=y.ql∧x.dg=y.dg:=by
 unfold con at h
 simp only [TBd.mk.injEq] at h
 simp only [h,and_self]
theorem same8B_of {x y:TBd}(h:con x=con y):same8B x y=true:=by
 obtain⟨a,b,d,e,f,i⟩:=con_inj h
 unfold same8B
 simp [a,b,d,e,f,i]
theorem sameB_of {x y:TBd}(h:con x=con y):sameB x y=true:=by
 obtain⟨a,b,d,e,f,i⟩:=con_inj h
 unfold sameB
 simp [a,b,d,e,f,i]
theorem quorI_len:∀ (l:List TPr) (was:Int),was≤11→quorI was l=true→(l.length:Int)+was≤11
 | [],_,h,_=>by simpa using h
 | a::l,was,_,h=>by
  unfold quorI at h
  split at h
  ·cases h
  ·have:=quorI_len l a.rp (by omega) h
   rw [lC]
   omega
theorem bodyR_eq {x:TBd}(hx:BdOK x):bodyR x=bodyB x:=by
 rw [Bool.eq_iff_iff]
 constructor
 ·intro h
  unfold bodyR at h
  split at h
  ·cases h
  rename_i z
  split at h
  ·cases h
  rename_i w
  have hc:=same8B_in (by simpa using z)
  have key:(1≤x.kd∧x.kd≤6)→mayB x=true→x.ql.length≤11→bodyB x=true:=fun d a q=>by
   unfold bodyB
   rw [if_pos d,if_neg (by omega),if_neg (by rw [a];decide),if_neg (by omega),getB_own d hx a q]
   exact sameB_of hc.symm
  have f:x.kd≠4→x.ql=[]:=fun h4=>by
   have e:=(con_inj hc).2.2.2.2.1
   rw [← e]
   unfold ownR
   repeat' split
   all_goals first|rfl|(exfalso;simp_all)
  split at h
  ·rename_i c;exact key (by omega) (by unfold mayB;rw [if_pos c];exact h) (by rw [f (by omega)];decide)
  rename_i b
  split at h
  ·rename_i c;exact key (by omega) (by unfold mayB;rw [if_neg b,if_pos (.inl c)];exact h) (by rw [f (by omega)];decide)
  rename_i i
  split at h
  ·rename_i c;exact key (by omega) (by unfold mayB;rw [if_neg b,if_pos (.inr c)];exact h) (by rw [f (by omega)];decide)
  rename_i o
  split at h
  ·rename_i c;exact key (by omega) (by unfold mayB;rw [if_neg b,if_neg (by omega),if_neg (by omega)];exact h) (by rw [f (by omega)];decide)
  rename_i c3
  split at h
  ·rename_i c;exact key (by omega) (by unfold mayB;rw [if_neg b,if_neg (by omega),if_neg (by omega)];exact h) (by rw [f (by omega)];decide)
  rename_i c5
  split at h
  ·rename_i c
   simp only [Bool.and_eq_true,decide_eq_true_eq] at h
   have hl:=quorI_len x.ql 0 (by decide) h.1
   refine key (by omega) ?_ (by omega)
   unfold mayB quorB
   rw [if_neg b,if_neg (by omega),if_pos c]
   simp only [Bool.and_eq_true,decide_eq_true_eq]
   exact⟨h.2.1,h.1,by omega⟩
  ·cases h
 ·intro h
  obtain⟨d,a,q⟩:=bodyB_in h
  have hb:=h
  unfold bodyB at h
  rw [if_pos d] at h
  split at h
  ·cases h
  rename_i w
  have hc:con x=con (ownR x):=by
   have e:=getB_bdB hb hx
   rw [getB_own d hx a q] at e
   exact(Prod.mk.inj e).1.symm
  unfold bodyR
  rw [if_neg (by rw [same8B_of hc.symm];decide),if_neg w]
  unfold mayB at a
  by_cases b:x.kd=1
  ·rw [if_pos b] at a ⊢;exact a
  rw [if_neg b] at a ⊢
  by_cases i:x.kd=2
  ·rw [if_pos (.inl i)] at a;rw [if_pos i];exact a
  by_cases o:x.kd=6
  ·rw [if_pos (.inr o)] at a;rw [if_neg i,if_pos o];exact a
  rw [if_neg (by omega)] at a
  rw [if_neg i,if_neg o]
  by_cases u:x.kd=4
  ·rw [if_pos u] at a
   unfold quorB at a
   simp only [Bool.and_eq_true,decide_eq_true_eq] at a
   rw [if_neg (by omega),if_neg (by omega),if_pos u]
   simp only [Bool.and_eq_true,decide_eq_true_eq]
   exact⟨a.2.1,a.1,by omega⟩
  ·rw [if_neg u] at a
   rcases(by omega:x.kd=3∨x.kd=5) with c|c
   ·rw [if_pos c];exact a
   ·rw [if_neg (by omega),if_pos c];exact a
theorem gints {T:TypeId→Value→Prop}{k:IntKind}{ks:List GK}:∀ (n:Nat){vs:List Value},gfits T (List.replicate n (.int k)++ks) vs→∃ (l:List Int) (rest:List Value),l.length=n∧(∀ z∈l,(Lit.int k z).wf=true)∧vs=l.map (Value.int k)++rest∧gfits T ks rest
 | 0,vs,h=>⟨[],vs,rfl,fun z hz=>(by cases hz),rfl,h⟩
 | n+1,vs,h=>by
  obtain⟨_,r,rfl,⟨a,rfl,w⟩,g⟩:=gfits_cons (show gfits T (GK.int k::(List.replicate n (.int k)++ks)) vs from h)
  obtain⟨l,rest,h1,h2,rfl,h3⟩:=gints n g
  refine⟨a::l,rest,by rw [lC,h1],fun z hz=>?_,rfl,h3⟩
  rcases List.mem_cons.1 hz with rfl|hz
  ·exact w
  ·exact h2 z hz
section
variable {T : TypeId → Value → Prop} {ks : List GK} {vs : List Value} {W : World}
theorem D32.of (h:gfits T (List.replicate 32 (.int .u8)++ks) vs):∃ (d:D32) (rest:List Value),vs=(D32.cells d).toList++rest∧(∀ z∈d.toList,0≤z∧z<256)∧gfits T ks rest:=by
 obtain⟨l,rest,a,b,rfl,e⟩:=gints 32 h
 refine⟨⟨l.toArray,by simpa using a⟩,rest,?_,fun z hz=>?_,e⟩
 ·rw [D32.eqm];simp
 ·have:=wf_u8 (b z (by simpa using hz));omega
theorem VecD.of (h:gfits T (List.replicate 11 (.int .u64)++ks) vs):∃ (d:VecD) (rest:List Value),vs=(VecD.cells d).toList++rest∧(∀ z∈d.toList,0≤z∧z≤18446744073709551615)∧gfits T ks rest:=by
 obtain⟨l,rest,a,b,rfl,e⟩:=gints 11 h
 refine⟨⟨l.toArray,by simpa using a⟩,rest,?_,fun z hz=>wf_u64 (b z (by simpa using hz)),e⟩
 rw [VecD.eqm];simp
abbrev opK:List GK:=[.int .u8,.str,.str,.str,.str,.int .u64]
abbrev rqK:List GK:=.int .i64::.int .u64::(opK++List.replicate 32 (.int .u8))
abbrev bdK:List GK:=.int .u8::.int .u64::.int .u64::(rqK++(.sl 35::List.replicate 32 (.int .u8)))
abbrev msK:List GK:=.int .i64::.int .u64::(List.replicate 11 (.int .u64)++(bdK++List.replicate 32 (.int .u8)))
abbrev pkK:List GK:=.int .i64::.int .i64::(List.replicate 11 (.int .u64)++[.sl 40])
abbrev stK:List GK:=.int .u8::.int .i64::.int .i64::.int .i64::.int .i64::.int .i64::(opK++(bdK++(pkK++[.int .u64,.int .i64,.str,.int .u64,.sl 22])))
theorem TOp.of (h:gfits T (opK++ks) vs):∃ (o:TOp) (rest:List Value),vs=(TOp.cells o).toList++rest∧((0≤o.kd∧o.kd≤255)∧(0≤o.am∧o.am≤18446744073709551615))∧gfits T ks rest:=by
 obtain⟨_,z,rfl,⟨a,rfl,b⟩,g1⟩:=gfits_cons h
 obtain⟨_,r1,rfl,⟨d,rfl,-⟩,g2⟩:=gfits_cons g1
 obtain⟨_,r2,rfl,⟨e,rfl,-⟩,g3⟩:=gfits_cons g2
 obtain⟨_,r3,rfl,⟨f,rfl,-⟩,g4⟩:=gfits_cons g3
 obtain⟨_,r4,rfl,⟨i,rfl,-⟩,q⟩:=gfits_cons g4
 obtain⟨_,u,rfl,⟨w,rfl,x⟩,g6⟩:=gfits_cons q
 exact⟨⟨a,d,e,f,i,w⟩,u,rfl,⟨wf_u8 b,wf_u64 x⟩,g6⟩
theorem TRq.of (h:gfits T (rqK++ks) vs):∃ (o:TRq) (rest:List Value),vs=(TRq.cells o).toList++rest∧RqOK o∧gfits T ks rest:=by
 replace h:gfits T (.int .i64::.int .u64::(opK++(List.replicate 32 (.int .u8)++ks))) vs:=h
 obtain⟨_,u,rfl,⟨b,rfl,e⟩,g1⟩:=gfits_cons h
 obtain⟨_,r1,rfl,⟨f,rfl,i⟩,g2⟩:=gfits_cons g1
 obtain⟨op,r2,rfl,a,g3⟩:=TOp.of g2
 obtain⟨d,r3,rfl,q,g4⟩:=D32.of g3
 exact⟨⟨b,f,op,d⟩,r3,rfl,⟨wf_i64 e,wf_u64 i,a.1,a.2,q⟩,g4⟩
def PrsT (W:World) (T:TypeId→Value→Prop):Prop:=∀ ad n c,T 35 (.slice ad n c)→∃ l:List TPr,l.length=n∧l.length≤9223372036854775807∧(∀ p∈l,(-9223372036854775808≤p.rp∧p.rp≤9223372036854775807)∧(0≤p.nm∧p.nm≤18446744073709551615))∧RowsAt W ad l.length 2 (fun k=>TPr.cells (l.getD k dPr))
def MssT (W:World) (T:TypeId→Value→Prop):Prop:=∀ ad n c,T 40 (.slice ad n c)→∃ l:List TMs,l.length=n∧(∀ m∈l,MsOK m∧RowsAt W m.bd.qa m.bd.ql.length 2 (fun k=>TPr.cells (m.bd.ql.getD k dPr)))∧RowsAt W ad l.length 121 (fun k=>TMs.cells (l.getD k dMs))
def BysT (W:World) (T:TypeId→Value→Prop):Prop:=∀ ad n c,T 22 (.slice ad n c)→∃ l:List Int,l.length=n∧(∀ z∈l,0≤z∧z<256)∧(ad=none→c=0)∧RowsAt W ad l.length 1 (fun k=>byteC (l.getD k (0:Int)))
theorem TBd.of (hP:PrsT W T) (h:gfits T (bdK++ks) vs):∃ (o:TBd) (rest:List Value),vs=(TBd.cells o).toList++rest∧(BdOK o∧RowsAt W o.qa o.ql.length 2 (fun k=>TPr.cells (o.ql.getD k dPr)))∧gfits T ks rest:=by
 replace h:gfits T (.int .u8::.int .u64::.int .u64::(rqK++(.sl 35::(List.replicate 32 (.int .u8)++ks)))) vs:=h
 obtain⟨_,r0,rfl,⟨a,rfl,b⟩,g1⟩:=gfits_cons h
 obtain⟨_,r1,rfl,⟨e,rfl,f⟩,g2⟩:=gfits_cons g1
 obtain⟨_,r2,rfl,⟨i,rfl,q⟩,g3⟩:=gfits_cons g2
 obtain⟨rq,r3,rfl,u,g4⟩:=TRq.of g3
 obtain⟨_,r4,rfl,⟨ad,n,c,rfl,w⟩,x⟩:=gfits_cons g4
 obtain⟨l,rfl,z,h2,h3⟩:=hP _ _ _ w
 obtain⟨d,r5,rfl,w5,g6⟩:=D32.of x
 exact⟨⟨a,e,i,rq,ad,c,l,d⟩,r5,rfl,⟨⟨wf_u8 b,wf_u64 f,wf_u64 q,u,h2,w5,z⟩,h3⟩,g6⟩
theorem TMs.of (hP:PrsT W T) (h:gfits T (msK++ks) vs):∃ (o:TMs) (rest:List Value),vs=(TMs.cells o).toList++rest∧(MsOK o∧RowsAt W o.bd.qa o.bd.ql.length 2 (fun k=>TPr.cells (o.bd.ql.getD k dPr)))∧gfits T ks rest:=by
 replace h:gfits T (.int .i64::.int .u64::(List.replicate 11 (.int .u64)++(bdK++(List.replicate 32 (.int .u8)++ks)))) vs:=h
 obtain⟨_,r0,rfl,⟨b,rfl,e⟩,g1⟩:=gfits_cons h
 obtain⟨_,r1,rfl,⟨f,rfl,i⟩,g2⟩:=gfits_cons g1
 obtain⟨dp,r2,rfl,q,g3⟩:=VecD.of g2
 have u:gfits T (bdK++(List.replicate 32 (.int .u8)++ks)) r2:=by simpa only [bdK,List.cons_append,List.append_assoc] using g3
 obtain⟨bd,r3,rfl,a,g4⟩:=TBd.of hP u
 obtain⟨d,w,rfl,x,z⟩:=D32.of g4
 exact⟨⟨b,f,dp,bd,d⟩,w,rfl,⟨⟨wf_i64 e,wf_u64 i,q,a.1,x⟩,a.2⟩,z⟩
structure StIn (W:World) (s:TSt):Prop where
 ok:StOK s
 q:RowsAt W s.bd.qa s.bd.ql.length 2 (fun k=>TPr.cells (s.bd.ql.getD k dPr))
 m:RowsAt W s.pk.ma s.pk.ml.length 121 (fun k=>TMs.cells (s.pk.ml.getD k dMs))
 p:RowsAt W s.pa s.pl.length 1 (fun k=>byteC (s.pl.getD k (0:Int)))
 ms:∀ m∈s.pk.ml,MsOK m∧RowsAt W m.bd.qa m.bd.ql.length 2 (fun k=>TPr.cells (m.bd.ql.getD k dPr))
theorem TSt.of {cs:Array Value}(hP:PrsT W T) (hM:MssT W T) (hB:BysT W T) (h:gfits T stK cs.toList):∃ s:TSt,cs=TSt.cells s∧StIn W s:=by
 obtain⟨vs⟩:=cs
 simp only at h
 obtain⟨_,r0,rfl,⟨e,rfl,f⟩,g1⟩:=gfits_cons h
 obtain⟨_,r1,rfl,⟨i,rfl,o⟩,g2⟩:=gfits_cons g1
 obtain⟨_,r2,rfl,⟨q,rfl,u⟩,g3⟩:=gfits_cons g2
 obtain⟨_,r3,rfl,⟨w,rfl,x⟩,g4⟩:=gfits_cons g3
 obtain⟨_,r4,rfl,⟨z,rfl,w4⟩,g5⟩:=gfits_cons g4
 obtain⟨_,r5,rfl,⟨n5,rfl,w5⟩,g6⟩:=gfits_cons g5
 obtain⟨op,r6,rfl,b,g7⟩:=TOp.of g6
 obtain⟨bd,r7,rfl,d,a⟩:=TBd.of hP g7
 replace a:gfits T (.int .i64::.int .i64::(List.replicate 11 (.int .u64)++(.sl 40::[.int .u64,.int .i64,.str,.int .u64,.sl 22]))) r7:=a
 obtain⟨_,r8,rfl,⟨n8,rfl,w8⟩,g9⟩:=gfits_cons a
 obtain⟨_,r9,rfl,⟨n9,rfl,w9⟩,a0⟩:=gfits_cons g9
 obtain⟨kn,ra,rfl,wa,a1⟩:=VecD.of a0
 obtain⟨_,rb,rfl,⟨ad,n,c,rfl,tb⟩,a2⟩:=gfits_cons a1
 obtain⟨l,rfl,b1,b2⟩:=hM _ _ _ tb
 obtain⟨_,rc,rfl,⟨nc,rfl,wc⟩,a3⟩:=gfits_cons a2
 obtain⟨_,rd,rfl,⟨nd,rfl,wd⟩,a4⟩:=gfits_cons a3
 obtain⟨_,re,rfl,⟨ne,rfl,-⟩,a5⟩:=gfits_cons a4
 obtain⟨_,rf,rfl,⟨nf,rfl,wf⟩,a6⟩:=gfits_cons a5
 obtain⟨_,rg,rfl,⟨ag,ng,cg,rfl,tg⟩,a7⟩:=gfits_cons a6
 obtain⟨lp,rfl,p1,p2,p3⟩:=hB _ _ _ tg
 obtain rfl:=gfits_nil a7
 exact⟨⟨e,i,q,w,z,n5,op,bd,⟨n8,n9,kn,ad,c,l⟩,nc,⟨nd,ne⟩,nf,ag,cg,lp⟩,rfl,⟨⟨wf_u8 f,wf_i64 o,wf_i64 u,wf_i64 x,wf_i64 w4,wf_i64 w5,b.1,b.2,d.1,wa,wf_u64 wc,wf_u64 wf,p1,p2⟩,d.2,b2,p3,b1⟩⟩
end
section
open Go.Deep
variable {H : Type} {enc : TypeId × Value → H} {w : World} {base : Nat} {spare : Nat → Bool} {held : Bool}
theorem prsT_in:PrsT w (SlT enc Tryz.prog w base spare held):=fun ad n c ⟨d,ps,h⟩=>by
 obtain⟨hn,cell,hr,hc⟩:=gopen_flat (m:=8) (ks:=[.int .i64,.int .u64]) Tryz.underlying35 (by kernel_rfl) (by kernel_rfl) (by decide) h
 obtain⟨l,hl,hp,hw⟩:=list_of_cells dPr (f:=TPr.cells) (fun p=>(-9223372036854775808≤p.rp∧p.rp≤9223372036854775807)∧(0≤p.nm∧p.nm≤18446744073709551615)) hr (fun k hk=>by
  have g:=hc k hk
  generalize cell k=cs at g ⊢
  obtain⟨vs⟩:=cs
  obtain⟨_,r0,rfl,⟨n0,rfl,w0⟩,g1⟩:=gfits_cons g
  obtain⟨_,r1,rfl,⟨n1,rfl,w1⟩,g2⟩:=gfits_cons g1
  obtain rfl:=gfits_nil g2
  exact⟨⟨n0,n1⟩,⟨wf_i64 w0,wf_u64 w1⟩,rfl⟩)
 exact⟨l,hl,by rw [hl];exact hn,hp,hw⟩
theorem mssT_in:MssT w (SlT enc Tryz.prog w base spare held):=fun ad n c ⟨d,ps,h⟩=>by
 obtain⟨-,cell,hr,hc⟩:=gopen_flat (m:=8) (ks:=msK) Tryz.underlying40 (by kernel_rfl) (by kernel_rfl) (by decide) h
 obtain⟨l,hl,hp,hw⟩:=list_of_cells dMs (f:=TMs.cells) (fun m=>MsOK m∧RowsAt w m.bd.qa m.bd.ql.length 2 (fun k=>TPr.cells (m.bd.ql.getD k dPr))) hr (fun k hk=>by
  have g:=hc k hk
  generalize cell k=cs at g ⊢
  obtain⟨vs⟩:=cs
  rw [← List.append_nil msK] at g
  obtain⟨m,r,rfl,w1,g1⟩:=TMs.of prsT_in g
  obtain rfl:=gfits_nil g1
  exact⟨m,w1,rfl⟩)
 exact⟨l,hl,hp,hw⟩
theorem bysT_in:BysT w (SlT enc Tryz.prog w base spare held):=fun ad n c ⟨d,ps,h⟩=>by
 have h0:ad=none→c=0:=fun e=>by
  subst e
  obtain⟨fuel,hf⟩:=h
  rcases open_slice Tryz.underlying22 hf with⟨hcs,_⟩|⟨a,len,cap,mm,nn,D,Pl,hcs,_⟩
  ·simp [Value.cells] at hcs;exact hcs.2
  ·simp [Value.cells] at hcs
 obtain⟨-,cell,hr,hc⟩:=gopen_flat (m:=8) (ks:=[.int .u8]) Tryz.underlying22 (by kernel_rfl) (by kernel_rfl) (by decide) h
 obtain⟨l,hl,hp,hw⟩:=list_of_cells (0:Int) (f:=byteC) (fun z=>0≤z∧z<256) hr (fun k hk=>by
  have g:=hc k hk
  generalize cell k=cs at g ⊢
  obtain⟨vs⟩:=cs
  obtain⟨_,r0,rfl,⟨n0,rfl,w0⟩,g1⟩:=gfits_cons g
  obtain rfl:=gfits_nil g1
  exact⟨n0,by have:=wf_u8 w0;omega,rfl⟩)
 exact⟨l,hl,hp,h0,hw⟩
end
end Go.Proofs.YtlomlmbbiopaaaaGreatDoor
