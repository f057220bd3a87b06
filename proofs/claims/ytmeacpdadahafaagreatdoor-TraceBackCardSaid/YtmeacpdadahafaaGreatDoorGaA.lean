/-
  Several texts in one: OctA, OctB, OctW, OctN, TbA, TbB, TbC, TbD, TbE, TbF.
-/
import Derived.Test.YtmeacpdadahafaaGreatDoorSxT
import Derived.Test.YtmeacpdadahafaaGreatDoorProg
namespace Go.Proofs.YtmeacpdadahafaaGreatDoor
open Go.RowKit Go.Sx
set_option linter.unusedVariables false
set_option linter.unusedSimpArgs false
set_option linter.unnecessarySimpa false
set_option maxRecDepth 100000
def byteC (n:Int):Array Value:=#[.int .u8 n]
theorem byteF:CellF byteC 1:=⟨fun _=>rfl,fun _=>rfl⟩
theorem bytesOK:ElemOK Tryz.prog 39 5 1 1:=⟨by kernel_rfl,⟨Tryz.t5,.int .u8 0,by kernel_rfl,by kernel_rfl,by kernel_rfl,by kernel_rfl,by kernel_rfl⟩,by decide⟩
theorem cloneS_spec {w0 w:World}{L:List Asn}{b:Nat}{c:Nat}(l:List Int) (hl:l.length≤1000000000000) (hs:St w0 ((Sl (some ⟨b,0,none⟩) c 5 1 byteC l)::L) w):Calls Tryz.prog 54 #[zL b 0 l.length c] w (Ret fun rv w'=>∃ (ao:Option Addr) (co:Nat),rv=.slice ao l.length co∧St w0 ((Sl ao co 5 1 byteC l)::(Sl (some ⟨b,0,none⟩) c 5 1 byteC l)::L) w'):=by
 refine Zen (args:=[zL b 0 l.length c]) Tryz.func54 Tryz.ntmps54 ?_
 refine Zn [(0,zL b 0 l.length c)] ?_
 refine Zs ?_
 refine Zqt (.rd 0 .done) ?_
 refine Zr 0 1 [] ?_
 refine Zd (Zt (Zs (Zs ?_)))
 refine Zqt (.rd 0 (.rd 1 .done)) ?_
 refine Zr 0 2 [] ?_
 refine Zd (Zt (ZqF (Zk (Zt (Zs ?_)))))
 refine Zqt (.ef 0 (.rd 1 (.ef 2 (.rd 3 .done)))) ?_
 refine GoR.sliceLit0 rfl (by kernel_rfl) (t:=39) (e:=5) (by kernel_rfl) (by kernel_rfl) (ti:=Tryz.t5) (by kernel_rfl) hs ?_
 intro b1 w2 hs3 hz4
 have hs5:St w0 ((Sl (some ⟨b1,0,none⟩) 0 5 1 byteC ([]:List Int))::(Sl (some ⟨b,0,none⟩) c 5 1 byteC l)::L) w2:=St.slOf (l:=([]:List Int)) (f:=byteC) hs3 hz4 (byteF).size (by simp only [lC,lN,maxLen];omega) (by kernel_rfl)
 refine⟨Zqo,?_⟩
 refine Zr 1 1 [] ?_
 refine GoR.append rfl (by kernel_rfl) bytesOK byteF (ad:=some ⟨b1,0,none⟩) (c:=0) (xs:=([]:List Int)) (ys:=l) (adx:=some ⟨b,0,none⟩) (cx:=c) (0:Int) (by kernel_rfl) hs5 (hs5.rows 1 rfl (byteF).size (0:Int)) (fun h=>nomatch h) (by simp only [lA,lC,lN,List.length_map] at *;omega) (by simp only [lA,lC,lN,List.length_map] at *;omega) ?_
 intro ad8 c9 w6 hs7
 refine⟨Zqo,?_⟩
 refine Zr 3 1 [] ?_
 refine Zd (Zt (Ze ?_))
 refine Zq1 (v:=.slice ad8 ((l).length) c9) ?_
 exact⟨ad8,c9,(by simp),hs7⟩
theorem cloneN_spec {w0 w:World}{L:List Asn}(hs:St w0 (L) w):Calls Tryz.prog 54 #[.slice none 0 0] w (Ret fun rv w'=>rv=.slice none 0 0∧St w0 (L) w'):=by
 refine Zen (args:=[.slice none 0 0]) Tryz.func54 Tryz.ntmps54 ?_
 refine Zn [(0,.slice none 0 0)] ?_
 refine Zs ?_
 refine Zqt (.rd 0 .done) ?_
 refine Zr 0 1 [] ?_
 refine Zd (Zt (Zs (Zs ?_)))
 refine Zqt (.rd 0 (.rd 1 .done)) ?_
 refine Zr 0 2 [] ?_
 refine Zd (Zt (ZqT (Zs ?_)))
 refine Zqt (.rd 0 .done) ?_
 refine Zr 0 1 [] ?_
 refine Zd (Zt (Ze (Zy ?_)))
 refine Zq1 (v:=.slice none 0 0) ?_
 exact⟨rfl,hs⟩
theorem grown_sl {w0 w w':World}{L:List Asn}{ad base:Option Addr}{c n:Nat}{l:List Int}{all:List Value}{v:Value}(hs:St w0 (Sl ad c 5 1 byteC l::L) w) (hb:base=ad) (hx:all.take l.length=l.flatMap fun x=>(byteC x).toList) (h:Grown w0 (Sl ad c 5 1 byteC l::L) w base l.length c n all v w') :
 ∃ (ao:Option Addr) (co:Nat),v=.slice ao l.length co∧St w0 (Sl ao co 5 1 byteC l::L) w':=by
 subst hb
 rcases h with⟨-,rfl,rfl⟩|⟨cap,rest,e1,e2,rfl,e3,rfl⟩
 ·exact⟨_,_,rfl,hs⟩
 ·have hf:=flat_length (f:=byteC) (size:=1) (fun _=>rfl) l
  have hd:St w0 L { w with drawn:=w.drawn+1 }:=(hs.tail).drew
  refine⟨_,_,rfl,?_⟩
  refine St.new hd rfl rfl rfl (by simp) (fun b hb=>?_) ?_ (fun b hb=>?_)
  ·have hb':b<w.heap.size:=hb
   simp only [Array.getElem?_push];rw [if_neg (by omega)]
  ·refine⟨hf,.inr ⟨w.heap.size,cap,(all++rest).toArray,rfl,Nat.zero_le _,by simp,e1,by simp only [maxLen];omega,by simpa using e3,?_⟩⟩
   have hl:l.length≤all.length:=by
    have:=congrArg List.length hx
    rw [List.length_take,hf] at this
    omega
   rw [Nat.mul_one,List.take_append_of_le_length hl,hx]
  ·have:some w.heap.size=some b:=hb
   cases this
   simp
theorem growS_spec {w0 w:World}{L:List Asn}{b c:Nat}(l:List Int) (n:Nat) (hl:l.length≤1000000) (hn:n≤1000000) (hs:St w0 (Sl (some ⟨b,0,none⟩) c 5 1 byteC l::L) w) :
 Calls Tryz.prog 66 #[zL b 0 l.length c,.int .i64 n] w (Ret fun rv w'=>∃ (ao:Option Addr) (co:Nat),rv=.slice ao l.length co∧St w0 (Sl ao co 5 1 byteC l::L) w'):=by
 obtain⟨h1,h2⟩:=hs.holds _ (List.mem_cons_self ..)
 rcases h2 with⟨h2,-⟩|⟨g,cap,cur,h2,-,h4,h5,h6,h7,h8⟩
 ·cases h2
 ·cases h2
  refine Calls.ret (grow_spec (all:=cur.toList) (n:=n) hs (fun ad h=>by cases h;rfl) h5 (by simp only [maxLen] at h6;omega) hn hl (by rw [Array.length_toList];omega) ?_) (fun v w' h=>grown_sl hs rfl (by rw [← h8,Nat.mul_one]) h)
  intro w1 hw
  simp only [Builtin.firstCells,loadCells]
  refine run_loadCells0 _ _ (by simpa using h7) fun i hi=>?_
  rw [add_mk,Nat.zero_add]
  simp only [World.cell?,hw,h4]
  simp
theorem growN_spec {w0 w:World}{L:List Asn}{c:Nat}(n:Nat) (hn:n≤1000000) (hs:St w0 (Sl none 0 5 1 byteC []::L) w) :
 Calls Tryz.prog 66 #[.slice none 0 0,.int .i64 n] w (Ret fun rv w'=>∃ (ao:Option Addr) (co:Nat),rv=.slice ao (([]:List Int).length) co∧St w0 (Sl ao co 5 1 byteC []::L) w') :=
 Calls.ret (grow_spec (all:=[]) (n:=n) (len:=0) (c:=0) (base:=none) hs (fun ad h=>by cases h) (Nat.le_refl _) (by omega) hn (by omega) rfl (fun w1 _=>by simp [Builtin.firstCells])) (fun v w' h=>grown_sl (l:=[]) hs rfl rfl h)
theorem clone_spec2 {w0 w:World}{L:List Asn}{ad:Option Addr}{c:Nat}(l:List Int) (hl:l.length≤1000000) (hs:St w0 (Sl ad c 5 1 byteC l::L) w) :
 Calls Tryz.prog 54 #[.slice ad l.length c] w (Ret fun rv w'=>∃ (ao:Option Addr) (co:Nat),rv=.slice ao l.length co∧St w0 (Sl ao co 5 1 byteC l::L) w'):=by
 obtain⟨h1,h2⟩:=hs.holds _ (List.mem_cons_self ..)
 rcases h2 with⟨h2,h3⟩|⟨g,cap,cur,h2,-⟩
 ·obtain rfl:l=[]:=List.length_eq_zero_iff.1 h3
  cases h2
  refine Calls.ret (cloneN_spec hs) ?_
  rintro v w' ⟨rfl,h⟩
  exact⟨none,0,rfl,h⟩
 ·cases h2
  refine Calls.ret (cloneS_spec l (by omega) hs) ?_
  rintro v w' ⟨ao,co,rfl,h⟩
  exact⟨ao,co,rfl,h.sub (List.Sublist.cons_cons _ (List.Sublist.cons _ (List.Sublist.refl _)))⟩
theorem grow_spec2 {w0 w:World}{L:List Asn}{ad:Option Addr}{c:Nat}(l:List Int) (n:Nat) (hl:l.length≤1000000) (hn:n≤1000000) (hs:St w0 (Sl ad c 5 1 byteC l::L) w) :
 Calls Tryz.prog 66 #[.slice ad l.length c,.int .i64 n] w (Ret fun rv w'=>∃ (ao:Option Addr) (co:Nat),rv=.slice ao l.length co∧St w0 (Sl ao co 5 1 byteC l::L) w'):=by
 obtain⟨h1,h2⟩:=hs.holds _ (List.mem_cons_self ..)
 rcases h2 with⟨h2,h3⟩|⟨g,cap,cur,h2,-⟩
 ·obtain rfl:l=[]:=List.length_eq_zero_iff.1 h3
  cases h2
  exact growN_spec (c:=0) n hn hs
 ·cases h2
  exact growS_spec l n hl hn hs
def wdb (n:Int) (x:Nat):Int:=(fun z:Int=>IntKind.u8.wrap (iShr .u64 n (8*z))) (7-(x:Nat))
def wdn (n:Int) (x:Nat):List Int:=(List.range x).map (wdb n)
theorem wdn_succ (n:Int) (x:Nat):wdn n (x+1)=wdn n x++[wdb n x]:=by simp [wdn,List.range_succ]
theorem wdn_length (n:Int) (x:Nat):(wdn n x).length=x:=by simp [wdn]
def wd (n:Int):List Int:=wdn n 8
theorem wd_length (n:Int):(wd n).length=8:=wdn_length n 8
theorem putW_spec {w0 w:World}{L:List Asn}{ad:Option Addr}{c:Nat}(l:List Int) (n:Int) (hl:l.length≤900000) (hn:0≤n∧n≤18446744073709551615) (hs:St w0 ((Sl ad c 5 1 byteC l)::L) w):Calls Tryz.prog 46 #[.slice ad l.length c,.int .u64 n,.int .i64 8] w (Ret fun rv w'=>∃ (ao:Option Addr) (co:Nat),rv=.slice ao ((l++wd n).length) co∧St w0 ((Sl ao co 5 1 byteC (l++wd n))::L) w'):=by
 refine Zen (args:=[.slice ad l.length c,.int .u64 n,.int .i64 8]) Tryz.func46 Tryz.ntmps46 ?_
 refine Zn [(0,.slice ad l.length c),(1,.int .u64 n),(2,.int .i64 8)] ?_
 refine Zs ?_
 refine Zqt (.rd 0 .done) ?_
 refine Zr 0 1 [] ?_
 refine Zd (Zt (Zs ?_))
 refine Zqt (.rd 0 (.ef 1 (.rd 2 (.ef 3 (.rd 4 .done))))) ?_
 refine Zr 0 1 [] ?_
 refine Zqa (f:=54) (args:=#[.slice ad l.length c]) Tryz.call54 (clone_spec2 l (by first|omega|(simp only [lA,lC,lN,wd_length] at *;omega)) hs) ?_
 rintro v4 w5 ⟨ao1,co2,rfl,hs3⟩
 refine⟨Zqo,?_⟩
 refine Zr 2 1 [] ?_
 refine Zqa (f:=66) (args:=#[.slice ao1 l.length co2,.int .i64 8]) Tryz.call66 (grow_spec2 l 8 (by first|omega|(simp only [lA,lC,lN,wd_length] at *;omega)) (by omega) hs3) ?_
 rintro v9 w10 ⟨ao6,co7,rfl,hs8⟩
 refine⟨Zqo,?_⟩
 refine Zr 4 1 [] ?_
 refine Zd (Zt (Zs (Zs ?_)))
 refine Zqt (.rd 0 (.rd 1 (.rd 2 .done))) ?_
 refine Zr 0 3 [] ?_
 refine Zd (Zt (Zb ?_))
 refine GoC.loop (T:=Nat×Int×(List Int)×(Option Addr)×Nat) (fun gg=>[(1,.int .u64 n),(6,.slice none 0 0),(7,.slice gg.2.2.2.1 gg.2.2.1.length gg.2.2.2.2),(8,.int .i64 gg.2.1)]) (fun gg w=>(gg.1≤8∧gg.2.1=7-(gg.1:Nat)∧gg.2.2.1=l++wdn n gg.1)∧St w0 ((Sl gg.2.2.2.1 gg.2.2.2.2 5 1 byteC gg.2.2.1)::L) w) (fun gg=>8-gg.1) (0,7,l,ao6,co7) [1,6,7,8] (by kernel_rfl) ⟨⟨by first|omega|(simp only;omega),by first|omega|(simp only;omega),by simp [wdn]⟩,hs8⟩ ?_
 rintro⟨x,z,q,ad,c⟩ w11 ⟨hp0,hs12⟩
 have hp:x≤8∧z=7-(x:Nat)∧q=l++wdn n x:=hp0
 have hs13:St w0 ((Sl ad c 5 1 byteC q)::L) w11:=hs12
 refine Zn [(1,.int .u64 n),(6,.slice none 0 0),(7,.slice ad q.length c),(8,.int .i64 z)] ?_
 refine Zs (Zs ?_)
 refine Zqt (.rd 0 (.rd 1 .done)) ?_
 refine Zr 0 2 [] ?_
 refine Zd (Zt ?_)
 refine Zqc (t:=decide ((z:Int) ≥ 0)) (fun h14=>?_) (fun h14=>?_)
 ·have h14':(z:Int) ≥ 0:=of_decide_eq_true h14
  refine Zk (Zt (Zs (Zb ?_)))
  refine Zqt (.rd 0 (.rd 1 (.rd 2 (.rd 3 (.rd 4 (.rd 5 (.ef 6 (.ef 7 (.rd 8 .done))))))))) ?_
  refine Zp 0 6 [(3,.as_ (.int .i64 (8*z)) (.gen [])),(4,.shift (iShr .u64 n (8*z)))] [(3,[.prop (Value.int .i64 (IntKind.i64.wrap (8*z))=Value.int .i64 (8*z))]),(4,[.prop ((0:Int)≤8*z∧Int.fdiv n (2 ^ (min (Int.toNat (8*z)) (IntKind.bits .u64)))=iShr .u64 n (8*z))])] (ak (okp (i64ok (by omega) (by omega)) ok0) (ak (okp ⟨(by first|omega|exact uwrap_nn rfl _),rfl⟩ ok0) ak0)) ?_
  refine GoR.sliceLit rfl (by kernel_rfl) (t:=39) (e:=5) (n:=1) (ps:=[(0,.int .u8 (IntKind.u8.wrap (iShr .u64 n (8*z))))]) (by kernel_rfl) (by kernel_rfl) (ti:=Tryz.t5) (z:=.int .u8 0) (by kernel_rfl) (by kernel_rfl) (by decide) (by decide) (cs:=#[.int .u8 (IntKind.u8.wrap (iShr .u64 n (8*z)))]) (by kernel_rfl) hs13 ?_
  intro b15 w16 hs17 hz18
  have hs19:St w0 ((Sl (some ⟨b15,0,none⟩) 1 5 1 byteC ([(IntKind.u8.wrap (iShr .u64 n (8*z)):Int)]))::(Sl ad c 5 1 byteC q)::L) w16:=St.slOf (l:=[(IntKind.u8.wrap (iShr .u64 n (8*z)):Int)]) (f:=byteC) hs17 hz18 (byteF).size (by simp only [lC,lN,maxLen];omega) (by kernel_rfl)
  refine⟨Zqo,?_⟩
  have hs22:St w0 ((Sl ad c 5 1 byteC q)::(Sl (some ⟨b15,0,none⟩) 1 5 1 byteC ([(IntKind.u8.wrap (iShr .u64 n (8*z)):Int)]))::L) w16:=(hs19.pull 1 rfl)
  refine GoR.append rfl (by kernel_rfl) bytesOK byteF (ad:=ad) (c:=c) (xs:=q) (ys:=[(IntKind.u8.wrap (iShr .u64 n (8*z)):Int)]) (adx:=some ⟨b15,0,none⟩) (cx:=1) (0:Int) (by kernel_rfl) hs22 (hs22.rows 1 rfl (byteF).size (0:Int)) (fun h=>nomatch h) (by rw [hp.2.2,lA,wdn_length];simp only [lC,lN];omega) (by rw [hp.2.2,lA,wdn_length];simp only [lC,lN];omega) ?_
  intro ad23 c24 w20 hs21
  refine⟨Zqo,?_⟩
  refine Zr 8 1 [] ?_
  refine Zd (Zm (Zt ?_))
  refine Zqt (.rd 0 (.rd 1 (.rd 2 .done))) ?_
  refine Zp 0 3 [(1,.as_ (.int .i64 (z-1)) (.gen []))] [(1,[.prop (Value.int .i64 (IntKind.i64.wrap (z-1))=Value.int .i64 (z-1))])] (ak (okp (i64ok (by omega) (by omega)) ok0) ak0) ?_
  refine Zd ?_
  have hs25:St w0 ((Sl (some ⟨b15,0,none⟩) 1 5 1 byteC ([(IntKind.u8.wrap (iShr .u64 n (8*z)):Int)]))::(Sl ad23 c24 5 1 byteC (q++([(IntKind.u8.wrap (iShr .u64 n (8*z)):Int)])))::L) w20:=((hs21.pull 0 rfl).pull 1 rfl)
  have hs26:St w0 ((Sl ad23 c24 5 1 byteC (q++([(IntKind.u8.wrap (iShr .u64 n (8*z)):Int)])))::L) w20:=hs25.drop 1
  exact GoQ.back (x+1,z-1,q++([(IntKind.u8.wrap (iShr .u64 n (8*z)):Int)]),ad23,c24) [1,6,7,8] (by kernel_rfl) (by show 8-(x+1)<8-x;omega) ⟨(by refine⟨by first|omega|(simp only;omega),by first|omega|(simp only;omega),?_⟩;rw [hp.2.2,List.append_assoc,hp.2.1];exact congrArg (l++·) (wdn_succ n x).symm),hs26⟩
 ·have h14':¬ ((z:Int) ≥ 0):=of_decide_eq_false h14
  refine Zx (GoQ.skipC (GoQ.skipL (GoQ.hit (Zt (Zs ?_)))))
  refine Zqt (.rd 0 (.rd 1 .done)) ?_
  refine Zr 0 2 [] ?_
  refine Zd (Zt (Ze ?_))
  refine Zq1 (v:=.slice ad q.length c) ?_
  have hx:x=8:=by omega
  have hq:q=l++wd n:=by rw [hp.2.2,hx];rfl
  subst hq
  exact⟨ad,c,rfl,hs13⟩
theorem word_spec {w0 w:World}{L:List Asn}{ad:Option Addr}{c:Nat}(l:List Int) (n:Int) (hl:l.length≤900000) (hn:0≤n∧n≤18446744073709551615) (hs:St w0 ((Sl ad c 5 1 byteC l)::L) w):Calls Tryz.prog 18 #[.slice ad l.length c,.int .u64 n] w (Ret fun rv w'=>∃ (ao:Option Addr) (co:Nat),rv=.slice ao ((l++wd n).length) co∧St w0 ((Sl ao co 5 1 byteC (l++wd n))::L) w'):=by
 refine Zen (args:=[.slice ad l.length c,.int .u64 n]) Tryz.func18 Tryz.ntmps18 ?_
 refine Zn [(0,.slice ad l.length c),(1,.int .u64 n)] ?_
 refine Zs ?_
 refine Zqt (.rd 0 .done) ?_
 refine Zr 0 1 [] ?_
 refine Zd (Zt (Zs ?_))
 refine Zqt (.rd 0 (.rd 1 (.ef 2 (.rd 3 .done)))) ?_
 refine Zr 0 2 [] ?_
 refine Zqa (f:=46) (args:=#[.slice ad l.length c,.int .u64 n,.int .i64 8]) Tryz.call46 (putW_spec l n (by first|omega|(simp only [lA,lC,lN,wd_length] at *;omega)) (by omega) hs) ?_
 rintro v4 w5 ⟨ao1,co2,rfl,hs3⟩
 refine⟨Zqo,?_⟩
 refine Zr 3 1 [] ?_
 refine Zd (Zt (Ze ?_))
 refine Zq1 (v:=.slice ao1 ((l++wd n).length) co2) ?_
 exact⟨ao1,co2,rfl,hs3⟩
end Go.Proofs.YtmeacpdadahafaaGreatDoor
namespace Go.Proofs.YtmeacpdadahafaaGreatDoor
open Go.RowKit Go.Sx
set_option linter.unusedVariables false
set_option linter.unusedSimpArgs false
def numB (l:List Int):Int:=l.foldl (fun n x=>iOr .u64 (iShl .u64 n 8) (IntKind.u64.wrap x)) 0
theorem numB_succ {l:List Int}{k:Nat}(hk:k<l.length):numB (l.take (k+1))=iOr .u64 (iShl .u64 (numB (l.take k)) 8) (IntKind.u64.wrap (l.getD k 0)):=by
 rw [take_succ_getD (d:=(0:Int)) hk]
 simp only [numB,List.foldl_append,List.foldl_cons,List.foldl_nil]
theorem u64_id {n:Int}(h0:0≤n) (h1:n<18446744073709551616):IntKind.u64.wrap n=n:=u64w h0 (by omega)
theorem or8 {a b:Int}(ha:0≤a) (hb:0≤b∧b<256) (h:a*256+b<18446744073709551616):iOr .u64 (iShl .u64 a 8) b=a*256+b:=by
 obtain⟨A,rfl⟩:∃ A:Nat,a=A:=⟨a.toNat,by omega⟩
 obtain⟨B,rfl⟩:∃ B:Nat,b=B:=⟨b.toNat,by omega⟩
 have e1:iShl .u64 (A:Int) 8=((A*256:Nat):Int):=by
  show IntKind.u64.wrap ((A:Int)*2 ^ 8)=_
  rw [show((A:Int)*2 ^ 8)=((A*256:Nat):Int) by omega]
  exact u64_id (by omega) (by omega)
 rw [e1]
 show IntKind.u64.wrap (((BitVec.ofInt 64 ((A*256:Nat):Int) ||| BitVec.ofInt 64 ((B:Nat):Int)).toNat:Nat):Int)=_
 rw [BitVec.ofInt_natCast,BitVec.ofInt_natCast,BitVec.toNat_or,BitVec.toNat_ofNat,BitVec.toNat_ofNat,Nat.mod_eq_of_lt (by omega),Nat.mod_eq_of_lt (by omega)]
 have e2:=Nat.two_pow_add_eq_or_of_lt (i:=8) (b:=B) (by omega) A
 rw [show A*256=2 ^ 8*A by omega,← e2,u64_id (by omega) (by omega)]
 omega
theorem iShr_nat (n:Nat) (k:Nat) (hk:k≤64):iShr .u64 (n:Int) (k:Int)=((n / 2 ^ k:Nat):Int):=by
 show(n:Int).fdiv (2 ^ (min (Int.toNat (k:Int)) 64))=_
 rw [Int.toNat_natCast,Nat.min_eq_left hk,Int.fdiv_eq_ediv_of_nonneg _ (by exact Int.pow_nonneg (by decide))]
 rw [Int.natCast_ediv,Int.natCast_pow]
 rfl
theorem wdb_nat (n:Nat) (x:Nat) (hx:x<8):wdb (n:Int) x=((n / 2 ^ (8*(7-x)) % 256:Nat):Int):=by
 show IntKind.u8.wrap (iShr .u64 (n:Int) (8*((7:Int)-(x:Nat))))=_
 rw [show(8*((7:Int)-(x:Nat)))=((8*(7-x):Nat):Int) by omega,iShr_nat n _ (by omega)]
 show((n / 2 ^ (8*(7-x)):Nat):Int) % 256=_
 omega
theorem numB_wdn (n:Nat) (hn:n<18446744073709551616):∀ k,k≤8→numB (wdn (n:Int) k)=((n / 2 ^ (8*(8-k)):Nat):Int)
 | 0,_=>by
  show(0:Int)=_
  rw [Nat.div_eq_of_lt (by exact hn)]
  rfl
 | k+1,hk=>by
  have ih:=numB_wdn n hn k (by omega)
  rw [wdn_succ]
  have e:numB (wdn (n:Int) k++[wdb (n:Int) k])=iOr .u64 (iShl .u64 (numB (wdn (n:Int) k)) 8) (IntKind.u64.wrap (wdb (n:Int) k)):=by
   simp only [numB,List.foldl_append,List.foldl_cons,List.foldl_nil]
  have hdiv:n / 2 ^ (8*(8-k))=n / 2 ^ (8*(8-(k+1))) / 256:=by
   rw [Nat.div_div_eq_div_mul,show 8*(8-k)=8*(8-(k+1))+8 by omega,Nat.pow_add]
  have hle:n / 2 ^ (8*(8-(k+1)))≤n:=Nat.div_le_self ..
  rw [e,ih,wdb_nat n k (by omega),u64_id (by omega) (by omega),show 8*(7-k)=8*(8-(k+1)) by omega,hdiv]
  generalize n / 2 ^ (8*(8-(k+1)))=q at hle ⊢
  rw [or8 (by omega) (by omega) (by omega)]
  omega
theorem numB_wd {v:Int}(h:0≤v∧v<18446744073709551616):numB (wd v)=v:=by
 obtain⟨n,rfl⟩:∃ n:Nat,v=n:=⟨v.toNat,by omega⟩
 rw [wd,numB_wdn n (by omega) 8 (Nat.le_refl _)]
 simp
theorem subAd_some {ad:Option Addr}{c lo size:Nat}(h:∃ b off,ad=some ⟨b,off,none⟩):∃ b off,subAd ad c lo size=some ⟨b,off,none⟩:=by
 obtain⟨b,off,rfl⟩:=h
 unfold subAd
 split
 ·exact⟨_,_,rfl⟩
 ·exact⟨b,off+lo*size,by simp [Addr.add]⟩
theorem strOf_strB (s:ByteArray):strOf (strB s)=s:=by
 unfold strOf strB
 rw [List.map_map]
 have e:(s.data.toList.map (u8of ∘ fun b:UInt8=>(b.toNat:Int)))=s.data.toList:=by
  conv=>rhs;rw [← List.map_id s.data.toList]
  refine List.map_congr_left fun b _=>?_
  show u8of (b.toNat:Int)=b
  apply UInt8.toNat_inj.1
  have h:=u8of_toNat (x:=(b.toNat:Int)) (by omega) (by have:=b.toNat_lt;omega)
  omega
 rw [e]
end Go.Proofs.YtmeacpdadahafaaGreatDoor
namespace Go.Proofs.YtmeacpdadahafaaGreatDoor
open Go.RowKit Go.Sx
set_option linter.unusedVariables false
set_option linter.unusedSimpArgs false
set_option linter.unnecessarySimpa false
set_option maxRecDepth 100000
theorem ib (a b:Int):(a == b)=decide (a=b):=by
 by_cases h:a=b
 ·simp [h]
 ·simp [h]
def wordC (n:Int):Array Value:=#[.int .u64 n]
abbrev D32:=Vector Int 32
def D32.cells (v:D32):Array Value:=#[.int .u8 v[0],.int .u8 v[1],.int .u8 v[2],.int .u8 v[3],.int .u8 v[4],.int .u8 v[5],.int .u8 v[6],.int .u8 v[7],.int .u8 v[8],.int .u8 v[9],.int .u8 v[10],.int .u8 v[11],.int .u8 v[12],.int .u8 v[13],.int .u8 v[14],.int .u8 v[15],.int .u8 v[16],.int .u8 v[17],.int .u8 v[18],.int .u8 v[19],.int .u8 v[20],.int .u8 v[21],.int .u8 v[22],.int .u8 v[23],.int .u8 v[24],.int .u8 v[25],.int .u8 v[26],.int .u8 v[27],.int .u8 v[28],.int .u8 v[29],.int .u8 v[30],.int .u8 v[31]]
abbrev dD32:D32:=#v[0,0,0,0,0,0,0,0,0,0,0,0,0,0,0,0,0,0,0,0,0,0,0,0,0,0,0,0,0,0,0,0]
theorem D32.eqm (v:D32):D32.cells v=v.toArray.map (Value.int .u8):=by
 apply Array.ext
 ·rw [Array.size_map,v.size_toArray];rfl
 ·intro i h1 h2
  rw [Array.getElem_map]
  have h:i<32:=h1
  match i,h with
  | 0,_=>rfl
  | 1,_=>rfl
  | 2,_=>rfl
  | 3,_=>rfl
  | 4,_=>rfl
  | 5,_=>rfl
  | 6,_=>rfl
  | 7,_=>rfl
  | 8,_=>rfl
  | 9,_=>rfl
  | 10,_=>rfl
  | 11,_=>rfl
  | 12,_=>rfl
  | 13,_=>rfl
  | 14,_=>rfl
  | 15,_=>rfl
  | 16,_=>rfl
  | 17,_=>rfl
  | 18,_=>rfl
  | 19,_=>rfl
  | 20,_=>rfl
  | 21,_=>rfl
  | 22,_=>rfl
  | 23,_=>rfl
  | 24,_=>rfl
  | 25,_=>rfl
  | 26,_=>rfl
  | 27,_=>rfl
  | 28,_=>rfl
  | 29,_=>rfl
  | 30,_=>rfl
  | 31,_=>rfl
  | m+32,h=>omega
theorem D32.len (v:D32):v.toList.length=32:=by simp
theorem D32.at_ (d:D32) (i:Nat) (h:i<32):(D32.cells d)[i]?=some (.int .u8 (d.toList.getD i 0)):=by
 rw [D32.eqm,Array.getElem?_map]
 simp [Vector.toList,h]
theorem D32.mid {w0 w:World}{L:List Asn}(hs:St w0 L w) (j:Nat){b:Nat}{cs:Array Value}{T:TypeId}(off:Nat) (d:D32) (hj:L[j]?=some (Cel b cs T)) (he:cs.extract off (off+32)=D32.cells d):RowsAt w (some ⟨b,off,none⟩) d.toList.length 1 (fun k=>byteC (d.toList.getD k (0:Int))):=by
 refine fun _=>⟨b,off,rfl,fun k hk i hi=>?_⟩
 have hk2:k<32:=by rw [D32.len] at hk;exact hk
 obtain rfl:i=0:=by omega
 have h1:cs[off+k]?=(D32.cells d)[k]?:=by
  rw [← he,Array.getElem?_extract,if_pos]
  have h2:=congrArg Array.size he
  rw [Array.size_extract] at h2
  have h3:(D32.cells d).size=32:=rfl
  omega
 rw [Nat.mul_one,Nat.add_zero,hs.cell j (off:=off+k) hj (h1.trans (D32.at_ d k hk2))]
 rfl
def D32.eqb (a b:D32):Bool:=a[0] == b[0] && (a[1] == b[1] && (a[2] == b[2] && (a[3] == b[3] && (a[4] == b[4] && (a[5] == b[5] && (a[6] == b[6] && (a[7] == b[7] && (a[8] == b[8] && (a[9] == b[9] && (a[10] == b[10] && (a[11] == b[11] && (a[12] == b[12] && (a[13] == b[13] && (a[14] == b[14] && (a[15] == b[15] && (a[16] == b[16] && (a[17] == b[17] && (a[18] == b[18] && (a[19] == b[19] && (a[20] == b[20] && (a[21] == b[21] && (a[22] == b[22] && (a[23] == b[23] && (a[24] == b[24] && (a[25] == b[25] && (a[26] == b[26] && (a[27] == b[27] && (a[28] == b[28] && (a[29] == b[29] && (a[30] == b[30] && (a[31] == b[31] && true)))))))))))))))))))))))))))))))
theorem D32.eqb_eq (a b:D32):D32.eqb a b=decide (a=b):=by
 by_cases h:a=b
 ·subst h;simp [D32.eqb]
 ·rw [decide_eq_false h]
  cases ht:D32.eqb a b with
  | false=>rfl
  | true =>
   exfalso
   apply h
   simp only [D32.eqb,Bool.and_eq_true,beq_iff_eq] at ht
   obtain⟨h0,h1,h2,h3,h4,h5,h6,h7,h8,h9,h10,h11,h12,h13,h14,h15,h16,h17,h18,h19,h20,h21,h22,h23,h24,h25,h26,h27,h28,h29,h30,h31,-⟩:=ht
   apply Vector.ext
   intro i hi
   match i,hi with
   | 0,_=>exact h0
   | 1,_=>exact h1
   | 2,_=>exact h2
   | 3,_=>exact h3
   | 4,_=>exact h4
   | 5,_=>exact h5
   | 6,_=>exact h6
   | 7,_=>exact h7
   | 8,_=>exact h8
   | 9,_=>exact h9
   | 10,_=>exact h10
   | 11,_=>exact h11
   | 12,_=>exact h12
   | 13,_=>exact h13
   | 14,_=>exact h14
   | 15,_=>exact h15
   | 16,_=>exact h16
   | 17,_=>exact h17
   | 18,_=>exact h18
   | 19,_=>exact h19
   | 20,_=>exact h20
   | 21,_=>exact h21
   | 22,_=>exact h22
   | 23,_=>exact h23
   | 24,_=>exact h24
   | 25,_=>exact h25
   | 26,_=>exact h26
   | 27,_=>exact h27
   | 28,_=>exact h28
   | 29,_=>exact h29
   | 30,_=>exact h30
   | 31,_=>exact h31
   | m+32,h=>omega
abbrev VecD:=Vector Int 11
def VecD.cells (v:VecD):Array Value:=#[.int .u64 v[0],.int .u64 v[1],.int .u64 v[2],.int .u64 v[3],.int .u64 v[4],.int .u64 v[5],.int .u64 v[6],.int .u64 v[7],.int .u64 v[8],.int .u64 v[9],.int .u64 v[10]]
abbrev dVc:VecD:=#v[0,0,0,0,0,0,0,0,0,0,0]
theorem VecD.eqm (v:VecD):VecD.cells v=v.toArray.map (Value.int .u64):=by
 apply Array.ext
 ·rw [Array.size_map,v.size_toArray];rfl
 ·intro i h1 h2
  rw [Array.getElem_map]
  have h:i<11:=h1
  match i,h with
  | 0,_=>rfl
  | 1,_=>rfl
  | 2,_=>rfl
  | 3,_=>rfl
  | 4,_=>rfl
  | 5,_=>rfl
  | 6,_=>rfl
  | 7,_=>rfl
  | 8,_=>rfl
  | 9,_=>rfl
  | 10,_=>rfl
  | m+11,h=>omega
theorem VecD.len (v:VecD):v.toList.length=11:=by simp
theorem VecD.at_ (d:VecD) (i:Nat) (h:i<11):(VecD.cells d)[i]?=some (.int .u64 (d.toList.getD i 0)):=by
 rw [VecD.eqm,Array.getElem?_map]
 simp [Vector.toList,h]
theorem VecD.mid {w0 w:World}{L:List Asn}(hs:St w0 L w) (j:Nat){b:Nat}{cs:Array Value}{T:TypeId}(off:Nat) (d:VecD) (hj:L[j]?=some (Cel b cs T)) (he:cs.extract off (off+11)=VecD.cells d):RowsAt w (some ⟨b,off,none⟩) d.toList.length 1 (fun k=>wordC (d.toList.getD k (0:Int))):=by
 refine fun _=>⟨b,off,rfl,fun k hk i hi=>?_⟩
 have hk2:k<11:=by rw [VecD.len] at hk;exact hk
 obtain rfl:i=0:=by omega
 have h1:cs[off+k]?=(VecD.cells d)[k]?:=by
  rw [← he,Array.getElem?_extract,if_pos]
  have h2:=congrArg Array.size he
  rw [Array.size_extract] at h2
  have h3:(VecD.cells d).size=11:=rfl
  omega
 rw [Nat.mul_one,Nat.add_zero,hs.cell j (off:=off+k) hj (h1.trans (VecD.at_ d k hk2))]
 rfl
theorem VecD.midc {cs:Array Value}{off k:Nat}{d:VecD}(he:cs.extract off (off+11)=VecD.cells d) (hk:k<11):cs[off+k*1]?=some (.int .u64 (d.toList.getD k 0)):=by
 have h1:cs[off+k]?=(VecD.cells d)[k]?:=by
  rw [← he,Array.getElem?_extract,if_pos]
  have h2:=congrArg Array.size he
  rw [Array.size_extract] at h2
  have h3:(VecD.cells d).size=11:=rfl
  omega
 rw [Nat.mul_one]
 exact h1.trans (VecD.at_ d k hk)
def VecD.eqb (a b:VecD):Bool:=a[0] == b[0] && (a[1] == b[1] && (a[2] == b[2] && (a[3] == b[3] && (a[4] == b[4] && (a[5] == b[5] && (a[6] == b[6] && (a[7] == b[7] && (a[8] == b[8] && (a[9] == b[9] && (a[10] == b[10] && true))))))))))
theorem VecD.eqb_eq (a b:VecD):VecD.eqb a b=decide (a=b):=by
 by_cases h:a=b
 ·subst h;simp [VecD.eqb]
 ·rw [decide_eq_false h]
  cases ht:VecD.eqb a b with
  | false=>rfl
  | true =>
   exfalso
   apply h
   simp only [VecD.eqb,Bool.and_eq_true,beq_iff_eq] at ht
   obtain⟨h0,h1,h2,h3,h4,h5,h6,h7,h8,h9,h10,-⟩:=ht
   apply Vector.ext
   intro i hi
   match i,hi with
   | 0,_=>exact h0
   | 1,_=>exact h1
   | 2,_=>exact h2
   | 3,_=>exact h3
   | 4,_=>exact h4
   | 5,_=>exact h5
   | 6,_=>exact h6
   | 7,_=>exact h7
   | 8,_=>exact h8
   | 9,_=>exact h9
   | 10,_=>exact h10
   | m+11,h=>omega
structure TPr where
 rp:Int
 nm:Int
deriving DecidableEq
def TPr.cells (x:TPr):Array Value:=#[.int .i64 x.rp,.int .u64 x.nm]
abbrev dPr:TPr:=⟨0,0⟩
theorem dPrF:CellF TPr.cells 2:=⟨fun _=>rfl,fun _=>rfl⟩
structure TOp where
 kd:Int
 ky:ByteArray
 va:ByteArray
 ol:ByteArray
 tx:ByteArray
 am:Int
deriving DecidableEq
def TOp.cells (x:TOp):Array Value:=#[.int .u8 x.kd,.string x.ky,.string x.va,.string x.ol,.string x.tx,.int .u64 x.am]
abbrev dOp:TOp:=⟨0,⟨#[]⟩,⟨#[]⟩,⟨#[]⟩,⟨#[]⟩,0⟩
structure TRe where
 er:Int
 vl:ByteArray
deriving DecidableEq
def TRe.cells (x:TRe):Array Value:=#[.int .i64 x.er,.string x.vl]
abbrev dRe:TRe:=⟨0,⟨#[]⟩⟩
structure TRq where
 cl:Int
 tm:Int
 op:TOp
 tg:D32
deriving DecidableEq
def TRq.cells (x:TRq):Array Value:=#[.int .i64 x.cl,.int .u64 x.tm,.int .u8 x.op.kd,.string x.op.ky,.string x.op.va,.string x.op.ol,.string x.op.tx,.int .u64 x.op.am,.int .u8 (x.tg[0]),.int .u8 (x.tg[1]),.int .u8 (x.tg[2]),.int .u8 (x.tg[3]),.int .u8 (x.tg[4]),.int .u8 (x.tg[5]),.int .u8 (x.tg[6]),.int .u8 (x.tg[7]),.int .u8 (x.tg[8]),.int .u8 (x.tg[9]),.int .u8 (x.tg[10]),.int .u8 (x.tg[11]),.int .u8 (x.tg[12]),.int .u8 (x.tg[13]),.int .u8 (x.tg[14]),.int .u8 (x.tg[15]),.int .u8 (x.tg[16]),.int .u8 (x.tg[17]),.int .u8 (x.tg[18]),.int .u8 (x.tg[19]),.int .u8 (x.tg[20]),.int .u8 (x.tg[21]),.int .u8 (x.tg[22]),.int .u8 (x.tg[23]),.int .u8 (x.tg[24]),.int .u8 (x.tg[25]),.int .u8 (x.tg[26]),.int .u8 (x.tg[27]),.int .u8 (x.tg[28]),.int .u8 (x.tg[29]),.int .u8 (x.tg[30]),.int .u8 (x.tg[31])]
abbrev dRq:TRq:=⟨0,0,dOp,dD32⟩
structure TBd where
 kd:Int
 vw:Int
 k:Int
 rq:TRq
 qa:Option Addr
 qc:Nat
 ql:List TPr
 dg:D32
def TBd.cells (x:TBd):Array Value:=#[.int .u8 x.kd,.int .u64 x.vw,.int .u64 x.k,.int .i64 x.rq.cl,.int .u64 x.rq.tm,.int .u8 x.rq.op.kd,.string x.rq.op.ky,.string x.rq.op.va,.string x.rq.op.ol,.string x.rq.op.tx,.int .u64 x.rq.op.am,.int .u8 (x.rq.tg[0]),.int .u8 (x.rq.tg[1]),.int .u8 (x.rq.tg[2]),.int .u8 (x.rq.tg[3]),.int .u8 (x.rq.tg[4]),.int .u8 (x.rq.tg[5]),.int .u8 (x.rq.tg[6]),.int .u8 (x.rq.tg[7]),.int .u8 (x.rq.tg[8]),.int .u8 (x.rq.tg[9]),.int .u8 (x.rq.tg[10]),.int .u8 (x.rq.tg[11]),.int .u8 (x.rq.tg[12]),.int .u8 (x.rq.tg[13]),.int .u8 (x.rq.tg[14]),.int .u8 (x.rq.tg[15]),.int .u8 (x.rq.tg[16]),.int .u8 (x.rq.tg[17]),.int .u8 (x.rq.tg[18]),.int .u8 (x.rq.tg[19]),.int .u8 (x.rq.tg[20]),.int .u8 (x.rq.tg[21]),.int .u8 (x.rq.tg[22]),.int .u8 (x.rq.tg[23]),.int .u8 (x.rq.tg[24]),.int .u8 (x.rq.tg[25]),.int .u8 (x.rq.tg[26]),.int .u8 (x.rq.tg[27]),.int .u8 (x.rq.tg[28]),.int .u8 (x.rq.tg[29]),.int .u8 (x.rq.tg[30]),.int .u8 (x.rq.tg[31]),.slice x.qa x.ql.length x.qc,.int .u8 (x.dg[0]),.int .u8 (x.dg[1]),.int .u8 (x.dg[2]),.int .u8 (x.dg[3]),.int .u8 (x.dg[4]),.int .u8 (x.dg[5]),.int .u8 (x.dg[6]),.int .u8 (x.dg[7]),.int .u8 (x.dg[8]),.int .u8 (x.dg[9]),.int .u8 (x.dg[10]),.int .u8 (x.dg[11]),.int .u8 (x.dg[12]),.int .u8 (x.dg[13]),.int .u8 (x.dg[14]),.int .u8 (x.dg[15]),.int .u8 (x.dg[16]),.int .u8 (x.dg[17]),.int .u8 (x.dg[18]),.int .u8 (x.dg[19]),.int .u8 (x.dg[20]),.int .u8 (x.dg[21]),.int .u8 (x.dg[22]),.int .u8 (x.dg[23]),.int .u8 (x.dg[24]),.int .u8 (x.dg[25]),.int .u8 (x.dg[26]),.int .u8 (x.dg[27]),.int .u8 (x.dg[28]),.int .u8 (x.dg[29]),.int .u8 (x.dg[30]),.int .u8 (x.dg[31])]
abbrev dBd:TBd:=⟨0,0,0,dRq,none,0,[],dD32⟩
structure TMs where
 og:Int
 nr:Int
 dp:VecD
 bd:TBd
 tg:D32
def TMs.cells (x:TMs):Array Value:=#[.int .i64 x.og,.int .u64 x.nr,.int .u64 (x.dp[0]),.int .u64 (x.dp[1]),.int .u64 (x.dp[2]),.int .u64 (x.dp[3]),.int .u64 (x.dp[4]),.int .u64 (x.dp[5]),.int .u64 (x.dp[6]),.int .u64 (x.dp[7]),.int .u64 (x.dp[8]),.int .u64 (x.dp[9]),.int .u64 (x.dp[10]),.int .u8 x.bd.kd,.int .u64 x.bd.vw,.int .u64 x.bd.k,.int .i64 x.bd.rq.cl,.int .u64 x.bd.rq.tm,.int .u8 x.bd.rq.op.kd,.string x.bd.rq.op.ky,.string x.bd.rq.op.va,.string x.bd.rq.op.ol,.string x.bd.rq.op.tx,.int .u64 x.bd.rq.op.am,.int .u8 (x.bd.rq.tg[0]),.int .u8 (x.bd.rq.tg[1]),.int .u8 (x.bd.rq.tg[2]),.int .u8 (x.bd.rq.tg[3]),.int .u8 (x.bd.rq.tg[4]),.int .u8 (x.bd.rq.tg[5]),.int .u8 (x.bd.rq.tg[6]),.int .u8 (x.bd.rq.tg[7]),.int .u8 (x.bd.rq.tg[8]),.int .u8 (x.bd.rq.tg[9]),.int .u8 (x.bd.rq.tg[10]),.int .u8 (x.bd.rq.tg[11]),.int .u8 (x.bd.rq.tg[12]),.int .u8 (x.bd.rq.tg[13]),.int .u8 (x.bd.rq.tg[14]),.int .u8 (x.bd.rq.tg[15]),.int .u8 (x.bd.rq.tg[16]),.int .u8 (x.bd.rq.tg[17]),.int .u8 (x.bd.rq.tg[18]),.int .u8 (x.bd.rq.tg[19]),.int .u8 (x.bd.rq.tg[20]),.int .u8 (x.bd.rq.tg[21]),.int .u8 (x.bd.rq.tg[22]),.int .u8 (x.bd.rq.tg[23]),.int .u8 (x.bd.rq.tg[24]),.int .u8 (x.bd.rq.tg[25]),.int .u8 (x.bd.rq.tg[26]),.int .u8 (x.bd.rq.tg[27]),.int .u8 (x.bd.rq.tg[28]),.int .u8 (x.bd.rq.tg[29]),.int .u8 (x.bd.rq.tg[30]),.int .u8 (x.bd.rq.tg[31]),.slice x.bd.qa x.bd.ql.length x.bd.qc,.int .u8 (x.bd.dg[0]),.int .u8 (x.bd.dg[1]),.int .u8 (x.bd.dg[2]),.int .u8 (x.bd.dg[3]),.int .u8 (x.bd.dg[4]),.int .u8 (x.bd.dg[5]),.int .u8 (x.bd.dg[6]),.int .u8 (x.bd.dg[7]),.int .u8 (x.bd.dg[8]),.int .u8 (x.bd.dg[9]),.int .u8 (x.bd.dg[10]),.int .u8 (x.bd.dg[11]),.int .u8 (x.bd.dg[12]),.int .u8 (x.bd.dg[13]),.int .u8 (x.bd.dg[14]),.int .u8 (x.bd.dg[15]),.int .u8 (x.bd.dg[16]),.int .u8 (x.bd.dg[17]),.int .u8 (x.bd.dg[18]),.int .u8 (x.bd.dg[19]),.int .u8 (x.bd.dg[20]),.int .u8 (x.bd.dg[21]),.int .u8 (x.bd.dg[22]),.int .u8 (x.bd.dg[23]),.int .u8 (x.bd.dg[24]),.int .u8 (x.bd.dg[25]),.int .u8 (x.bd.dg[26]),.int .u8 (x.bd.dg[27]),.int .u8 (x.bd.dg[28]),.int .u8 (x.bd.dg[29]),.int .u8 (x.bd.dg[30]),.int .u8 (x.bd.dg[31]),.int .u8 (x.tg[0]),.int .u8 (x.tg[1]),.int .u8 (x.tg[2]),.int .u8 (x.tg[3]),.int .u8 (x.tg[4]),.int .u8 (x.tg[5]),.int .u8 (x.tg[6]),.int .u8 (x.tg[7]),.int .u8 (x.tg[8]),.int .u8 (x.tg[9]),.int .u8 (x.tg[10]),.int .u8 (x.tg[11]),.int .u8 (x.tg[12]),.int .u8 (x.tg[13]),.int .u8 (x.tg[14]),.int .u8 (x.tg[15]),.int .u8 (x.tg[16]),.int .u8 (x.tg[17]),.int .u8 (x.tg[18]),.int .u8 (x.tg[19]),.int .u8 (x.tg[20]),.int .u8 (x.tg[21]),.int .u8 (x.tg[22]),.int .u8 (x.tg[23]),.int .u8 (x.tg[24]),.int .u8 (x.tg[25]),.int .u8 (x.tg[26]),.int .u8 (x.tg[27]),.int .u8 (x.tg[28]),.int .u8 (x.tg[29]),.int .u8 (x.tg[30]),.int .u8 (x.tg[31])]
abbrev dMs:TMs:=⟨0,0,dVc,dBd,dD32⟩
theorem dMsF:CellF TMs.cells 121:=⟨fun _=>rfl,fun _=>rfl⟩
structure TPk where
 fr:Int
 tw:Int
 kn:VecD
 ma:Option Addr
 mc:Nat
 ml:List TMs
def TPk.cells (x:TPk):Array Value:=#[.int .i64 x.fr,.int .i64 x.tw,.int .u64 (x.kn[0]),.int .u64 (x.kn[1]),.int .u64 (x.kn[2]),.int .u64 (x.kn[3]),.int .u64 (x.kn[4]),.int .u64 (x.kn[5]),.int .u64 (x.kn[6]),.int .u64 (x.kn[7]),.int .u64 (x.kn[8]),.int .u64 (x.kn[9]),.int .u64 (x.kn[10]),.slice x.ma x.ml.length x.mc]
abbrev dPk:TPk:=⟨0,0,dVc,none,0,[]⟩
structure TSt where
 dw:Int
 cl:Int
 wh:Int
 j:Int
 k:Int
 n:Int
 op:TOp
 bd:TBd
 pk:TPk
 tm:Int
 re:TRe
 at_:Int
 pa:Option Addr
 pc:Nat
 pl:List Int
def TSt.cells (x:TSt):Array Value:=#[.int .u8 x.dw,.int .i64 x.cl,.int .i64 x.wh,.int .i64 x.j,.int .i64 x.k,.int .i64 x.n,.int .u8 x.op.kd,.string x.op.ky,.string x.op.va,.string x.op.ol,.string x.op.tx,.int .u64 x.op.am,.int .u8 x.bd.kd,.int .u64 x.bd.vw,.int .u64 x.bd.k,.int .i64 x.bd.rq.cl,.int .u64 x.bd.rq.tm,.int .u8 x.bd.rq.op.kd,.string x.bd.rq.op.ky,.string x.bd.rq.op.va,.string x.bd.rq.op.ol,.string x.bd.rq.op.tx,.int .u64 x.bd.rq.op.am,.int .u8 (x.bd.rq.tg[0]),.int .u8 (x.bd.rq.tg[1]),.int .u8 (x.bd.rq.tg[2]),.int .u8 (x.bd.rq.tg[3]),.int .u8 (x.bd.rq.tg[4]),.int .u8 (x.bd.rq.tg[5]),.int .u8 (x.bd.rq.tg[6]),.int .u8 (x.bd.rq.tg[7]),.int .u8 (x.bd.rq.tg[8]),.int .u8 (x.bd.rq.tg[9]),.int .u8 (x.bd.rq.tg[10]),.int .u8 (x.bd.rq.tg[11]),.int .u8 (x.bd.rq.tg[12]),.int .u8 (x.bd.rq.tg[13]),.int .u8 (x.bd.rq.tg[14]),.int .u8 (x.bd.rq.tg[15]),.int .u8 (x.bd.rq.tg[16]),.int .u8 (x.bd.rq.tg[17]),.int .u8 (x.bd.rq.tg[18]),.int .u8 (x.bd.rq.tg[19]),.int .u8 (x.bd.rq.tg[20]),.int .u8 (x.bd.rq.tg[21]),.int .u8 (x.bd.rq.tg[22]),.int .u8 (x.bd.rq.tg[23]),.int .u8 (x.bd.rq.tg[24]),.int .u8 (x.bd.rq.tg[25]),.int .u8 (x.bd.rq.tg[26]),.int .u8 (x.bd.rq.tg[27]),.int .u8 (x.bd.rq.tg[28]),.int .u8 (x.bd.rq.tg[29]),.int .u8 (x.bd.rq.tg[30]),.int .u8 (x.bd.rq.tg[31]),.slice x.bd.qa x.bd.ql.length x.bd.qc,.int .u8 (x.bd.dg[0]),.int .u8 (x.bd.dg[1]),.int .u8 (x.bd.dg[2]),.int .u8 (x.bd.dg[3]),.int .u8 (x.bd.dg[4]),.int .u8 (x.bd.dg[5]),.int .u8 (x.bd.dg[6]),.int .u8 (x.bd.dg[7]),.int .u8 (x.bd.dg[8]),.int .u8 (x.bd.dg[9]),.int .u8 (x.bd.dg[10]),.int .u8 (x.bd.dg[11]),.int .u8 (x.bd.dg[12]),.int .u8 (x.bd.dg[13]),.int .u8 (x.bd.dg[14]),.int .u8 (x.bd.dg[15]),.int .u8 (x.bd.dg[16]),.int .u8 (x.bd.dg[17]),.int .u8 (x.bd.dg[18]),.int .u8 (x.bd.dg[19]),.int .u8 (x.bd.dg[20]),.int .u8 (x.bd.dg[21]),.int .u8 (x.bd.dg[22]),.int .u8 (x.bd.dg[23]),.int .u8 (x.bd.dg[24]),.int .u8 (x.bd.dg[25]),.int .u8 (x.bd.dg[26]),.int .u8 (x.bd.dg[27]),.int .u8 (x.bd.dg[28]),.int .u8 (x.bd.dg[29]),.int .u8 (x.bd.dg[30]),.int .u8 (x.bd.dg[31]),.int .i64 x.pk.fr,.int .i64 x.pk.tw,.int .u64 (x.pk.kn[0]),.int .u64 (x.pk.kn[1]),.int .u64 (x.pk.kn[2]),.int .u64 (x.pk.kn[3]),.int .u64 (x.pk.kn[4]),.int .u64 (x.pk.kn[5]),.int .u64 (x.pk.kn[6]),.int .u64 (x.pk.kn[7]),.int .u64 (x.pk.kn[8]),.int .u64 (x.pk.kn[9]),.int .u64 (x.pk.kn[10]),.slice x.pk.ma x.pk.ml.length x.pk.mc,.int .u64 x.tm,.int .i64 x.re.er,.string x.re.vl,.int .u64 x.at_,.slice x.pa x.pl.length x.pc]
abbrev dSt:TSt:=⟨0,0,0,0,0,0,dOp,dBd,dPk,0,dRe,0,none,0,[]⟩
theorem digEq (a b:D32):eqFlat Tryz.prog 2 25 (.agg (D32.cells a)) (.agg (D32.cells b))=decide (a=b):=by
 have h:eqFlat Tryz.prog 2 25 (.agg (D32.cells a)) (.agg (D32.cells b))=D32.eqb a b:=by kernel_rfl
 rw [h,D32.eqb_eq]
theorem vecEq (a b:VecD):eqFlat Tryz.prog 2 32 (.agg (VecD.cells a)) (.agg (VecD.cells b))=decide (a=b):=by
 have h:eqFlat Tryz.prog 2 32 (.agg (VecD.cells a)) (.agg (VecD.cells b))=VecD.eqb a b:=by kernel_rfl
 rw [h,VecD.eqb_eq]
theorem prEq (a b:TPr):eqFlat Tryz.prog 2 205 (.agg a.cells) (.agg b.cells)=decide (a=b):=by
 have h:eqFlat Tryz.prog 2 205 (.agg a.cells) (.agg b.cells)=(a.rp == b.rp && (a.nm == b.nm && true)):=by kernel_rfl
 rw [h,ib,ib,Bool.and_true]
 obtain⟨a0,a1⟩:=a
 obtain⟨b0,b1⟩:=b
 simp only [TPr.mk.injEq,Bool.decide_and]
theorem opEq (a b:TOp):eqFlat Tryz.prog 2 24 (.agg a.cells) (.agg b.cells)=decide (a=b):=by
 have h:eqFlat Tryz.prog 2 24 (.agg a.cells) (.agg b.cells)=(a.kd == b.kd && (a.ky.toList == b.ky.toList && (a.va.toList == b.va.toList && (a.ol.toList == b.ol.toList && (a.tx.toList == b.tx.toList && (a.am == b.am && true)))))):=by kernel_rfl
 rw [h,ib,strEq,strEq,strEq,strEq,ib,Bool.and_true]
 obtain⟨a0,a1,a2,a3,a4,a5⟩:=a
 obtain⟨b0,b1,b2,b3,b4,b5⟩:=b
 simp only [TOp.mk.injEq,Bool.decide_and]
theorem reEq (a b:TRe):eqFlat Tryz.prog 2 38 (.agg a.cells) (.agg b.cells)=decide (a=b):=by
 have h:eqFlat Tryz.prog 2 38 (.agg a.cells) (.agg b.cells)=(a.er == b.er && (a.vl.toList == b.vl.toList && true)):=by kernel_rfl
 rw [h,ib,strEq,Bool.and_true]
 obtain⟨a0,a1⟩:=a
 obtain⟨b0,b1⟩:=b
 simp only [TRe.mk.injEq,Bool.decide_and]
theorem rqEq (a b:TRq):eqFlat Tryz.prog 3 27 (.agg a.cells) (.agg b.cells)=decide (a=b):=by
 have h:eqFlat Tryz.prog 3 27 (.agg a.cells) (.agg b.cells)=(a.cl == b.cl && (a.tm == b.tm && (eqFlat Tryz.prog 2 24 (.agg a.op.cells) (.agg b.op.cells) && (D32.eqb a.tg b.tg && true)))):=by kernel_rfl
 rw [h,ib,ib,opEq,D32.eqb_eq,Bool.and_true]
 obtain⟨a0,a1,a2,a3⟩:=a
 obtain⟨b0,b1,b2,b3⟩:=b
 simp only [TRq.mk.injEq,Bool.decide_and]
theorem prsOK:ElemOK Tryz.prog 28 205 2 16:=⟨by kernel_rfl,⟨Tryz.t205,.agg (TPr.cells dPr),by kernel_rfl,by kernel_rfl,by kernel_rfl,by kernel_rfl,by kernel_rfl⟩,by decide⟩
theorem mssOK2:ElemOK Tryz.prog 33 58 121 344:=⟨by kernel_rfl,⟨Tryz.t58,.agg (TMs.cells dMs),by kernel_rfl,by kernel_rfl,by kernel_rfl,by kernel_rfl,by kernel_rfl⟩,by decide⟩
theorem byte_flatL (l:List Int):(l.flatMap fun x=>(byteC x).toList)=l.map (Value.int .u8):=by
 induction l with
 | nil=>rfl
 | cons a l ih=>simp only [List.flatMap_cons,List.map_cons,ih];rfl
theorem byte_flat (l:List Int):(arrCells byteC l)=(l.map (Value.int .u8)).toArray:=by
 apply Array.ext'
 simp only [arrCells]
 exact byte_flatL l
def vecL (l:List Int):D32:=⟨((l++List.replicate 32 0).take 32).toArray,by rw [List.size_toArray,List.length_take,lA,List.length_replicate];omega⟩
theorem vecL_toList (v:D32):vecL v.toList=v:=by
 have e:(v.toList++List.replicate 32 0).take 32=v.toList:=List.take_left' (D32.len v)
 apply Vector.toArray_inj.1
 show((v.toList++List.replicate 32 0).take 32).toArray=v.toArray
 rw [e]
 simp [Vector.toList]
def hf (n:Int):List Int:=[IntKind.u8.wrap (iShr .u16 n 8),IntKind.u8.wrap (iShr .u16 n 0)]
theorem hf_app {l:List Int}{n:Int}:(l++([(IntKind.u8.wrap (iShr .u16 n 8):Int)]))++([(IntKind.u8.wrap (iShr .u16 n 0):Int)])=l++hf n:=by rw [List.append_assoc];rfl
theorem hf_length (n:Int):(hf n).length=2:=rfl
theorem putH_spec {w0 w:World}{L:List Asn}{ad:Option Addr}{c:Nat}(l:List Int) (n:Int) (hl:l.length≤900000) (hn:0≤n∧n<65536) (hs:St w0 ((Sl ad c 5 1 byteC l)::L) w):Calls Tryz.prog 67 #[.slice ad l.length c,.int .u16 n,.int .i64 2] w (Ret fun rv w'=>∃ (ao:Option Addr) (co:Nat),rv=.slice ao ((l++hf n).length) co∧St w0 ((Sl ao co 5 1 byteC (l++hf n))::L) w'):=by
 refine Zen (args:=[.slice ad l.length c,.int .u16 n,.int .i64 2]) Tryz.func67 Tryz.ntmps67 ?_
 refine Zn [(0,.slice ad l.length c),(1,.int .u16 n),(2,.int .i64 2)] ?_
 refine Zs ?_
 refine Zqt (.rd 0 .done) ?_
 refine Zr 0 1 [] ?_
 refine Zd (Zt (Zs ?_))
 refine Zqt (.rd 0 (.ef 1 (.rd 2 (.ef 3 (.rd 4 .done))))) ?_
 refine Zr 0 1 [] ?_
 refine Zqa (f:=54) (args:=#[.slice ad l.length c]) Tryz.call54 (clone_spec2 l (by first|omega|(simp only [lA,lC,lN,wd_length] at *;omega)) hs) ?_
 rintro v4 w5 ⟨ao1,co2,rfl,hs3⟩
 refine⟨Zqo,?_⟩
 refine Zr 2 1 [] ?_
 refine Zqa (f:=66) (args:=#[.slice ao1 l.length co2,.int .i64 2]) Tryz.call66 (grow_spec2 l 2 (by first|omega|(simp only [lA,lC,lN,wd_length] at *;omega)) (by omega) hs3) ?_
 rintro v9 w10 ⟨ao6,co7,rfl,hs8⟩
 refine⟨Zqo,?_⟩
 refine Zr 4 1 [] ?_
 refine Zd (Zt (Zs (Zs ?_)))
 refine Zqt (.rd 0 (.rd 1 (.rd 2 .done))) ?_
 refine Zr 0 3 [] ?_
 refine Zd (Zt (Zb ?_))
 refine GoC.unroll 3 ?_
 refine Zs (Zs ?_)
 refine Zqt (.rd 0 (.rd 1 .done)) ?_
 refine Zr 0 2 [] ?_
 refine Zd (Zt (ZqT (Zk (Zt (Zs (Zb ?_))))))
 refine Zqt (.rd 0 (.rd 1 (.rd 2 (.rd 3 (.rd 4 (.rd 5 (.ef 6 (.ef 7 (.rd 8 .done))))))))) ?_
 refine Zp 0 6 [(4,.shift (iShr .u16 n 8))] [(4,[.prop ((0:Int)≤8∧Int.fdiv n (2 ^ (min (Int.toNat 8) (IntKind.bits .u16)))=iShr .u16 n 8)])] (ak (okp ⟨(by first|omega|exact uwrap_nn rfl _),rfl⟩ ok0) ak0) ?_
 refine GoR.sliceLit rfl (by kernel_rfl) (t:=39) (e:=5) (n:=1) (ps:=[(0,.int .u8 (IntKind.u8.wrap (iShr .u16 n 8)))]) (by kernel_rfl) (by kernel_rfl) (ti:=Tryz.t5) (z:=.int .u8 0) (by kernel_rfl) (by kernel_rfl) (by decide) (by decide) (cs:=#[.int .u8 (IntKind.u8.wrap (iShr .u16 n 8))]) (by kernel_rfl) hs8 ?_
 intro b11 w12 hs13 hz14
 have hs15:St w0 ((Sl (some ⟨b11,0,none⟩) 1 5 1 byteC ([(IntKind.u8.wrap (iShr .u16 n 8):Int)]))::(Sl ao6 co7 5 1 byteC l)::L) w12:=St.slOf (l:=[(IntKind.u8.wrap (iShr .u16 n 8):Int)]) (f:=byteC) hs13 hz14 (byteF).size (by simp only [lC,lN,maxLen];omega) (by kernel_rfl)
 refine⟨Zqo,?_⟩
 have hs18:St w0 ((Sl ao6 co7 5 1 byteC l)::(Sl (some ⟨b11,0,none⟩) 1 5 1 byteC ([(IntKind.u8.wrap (iShr .u16 n 8):Int)]))::L) w12:=(hs15.pull 1 rfl)
 refine GoR.append rfl (by kernel_rfl) bytesOK byteF (ad:=ao6) (c:=co7) (xs:=l) (ys:=[(IntKind.u8.wrap (iShr .u16 n 8):Int)]) (adx:=some ⟨b11,0,none⟩) (cx:=1) (0:Int) (by kernel_rfl) hs18 (hs18.rows 1 rfl (byteF).size (0:Int)) (fun h=>nomatch h) (by simp only [lA,lC,lN,List.length_map] at *;omega) (by simp only [lA,lC,lN,List.length_map] at *;omega) ?_
 intro ad19 c20 w16 hs17
 refine⟨Zqo,?_⟩
 refine Zr 8 1 [] ?_
 refine Zd (Zm (Zt ?_))
 refine Zqt (.rd 0 (.rd 1 (.rd 2 .done))) ?_
 refine Zr 0 3 [] ?_
 refine Zd ?_
 refine GoQ.again ?_
 refine Zs (Zs ?_)
 refine Zqt (.rd 0 (.rd 1 .done)) ?_
 refine Zr 0 2 [] ?_
 refine Zd (Zt (ZqT (Zk (Zt (Zs (Zb ?_))))))
 refine Zqt (.rd 0 (.rd 1 (.rd 2 (.rd 3 (.rd 4 (.rd 5 (.ef 6 (.ef 7 (.rd 8 .done))))))))) ?_
 refine Zp 0 6 [(4,.shift (iShr .u16 n 0))] [(4,[.prop ((0:Int)≤0∧Int.fdiv n (2 ^ (min (Int.toNat 0) (IntKind.bits .u16)))=iShr .u16 n 0)])] (ak (okp ⟨(by first|omega|exact uwrap_nn rfl _),rfl⟩ ok0) ak0) ?_
 refine GoR.sliceLit rfl (by kernel_rfl) (t:=39) (e:=5) (n:=1) (ps:=[(0,.int .u8 (IntKind.u8.wrap (iShr .u16 n 0)))]) (by kernel_rfl) (by kernel_rfl) (ti:=Tryz.t5) (z:=.int .u8 0) (by kernel_rfl) (by kernel_rfl) (by decide) (by decide) (cs:=#[.int .u8 (IntKind.u8.wrap (iShr .u16 n 0))]) (by kernel_rfl) hs17 ?_
 intro b21 w22 hs23 hz24
 have hs25:St w0 ((Sl (some ⟨b21,0,none⟩) 1 5 1 byteC ([(IntKind.u8.wrap (iShr .u16 n 0):Int)]))::(Sl ad19 c20 5 1 byteC (l++([(IntKind.u8.wrap (iShr .u16 n 8):Int)])))::(Sl (some ⟨b11,0,none⟩) 1 5 1 byteC ([(IntKind.u8.wrap (iShr .u16 n 8):Int)]))::L) w22:=St.slOf (l:=[(IntKind.u8.wrap (iShr .u16 n 0):Int)]) (f:=byteC) hs23 hz24 (byteF).size (by simp only [lC,lN,maxLen];omega) (by kernel_rfl)
 refine⟨Zqo,?_⟩
 have hs28:St w0 ((Sl ad19 c20 5 1 byteC (l++([(IntKind.u8.wrap (iShr .u16 n 8):Int)])))::(Sl (some ⟨b21,0,none⟩) 1 5 1 byteC ([(IntKind.u8.wrap (iShr .u16 n 0):Int)]))::(Sl (some ⟨b11,0,none⟩) 1 5 1 byteC ([(IntKind.u8.wrap (iShr .u16 n 8):Int)]))::L) w22:=(hs25.pull 1 rfl)
 refine GoR.append rfl (by kernel_rfl) bytesOK byteF (ad:=ad19) (c:=c20) (xs:=l++([(IntKind.u8.wrap (iShr .u16 n 8):Int)])) (ys:=[(IntKind.u8.wrap (iShr .u16 n 0):Int)]) (adx:=some ⟨b21,0,none⟩) (cx:=1) (0:Int) (by kernel_rfl) hs28 (hs28.rows 1 rfl (byteF).size (0:Int)) (fun h=>nomatch h) (by simp only [lA,lC,lN,List.length_map] at *;omega) (by simp only [lA,lC,lN,List.length_map] at *;omega) ?_
 intro ad29 c30 w26 hs27
 refine⟨Zqo,?_⟩
 refine Zr 8 1 [] ?_
 refine Zd (Zm (Zt ?_))
 refine Zqt (.rd 0 (.rd 1 (.rd 2 .done))) ?_
 refine Zr 0 3 [] ?_
 refine Zd ?_
 refine GoQ.again ?_
 refine Zs (Zs ?_)
 refine Zqt (.rd 0 (.rd 1 .done)) ?_
 refine Zr 0 2 [] ?_
 refine Zd (Zt (ZqF (Zx (GoQ.skipC (GoQ.skipL (GoQ.hit (Zt (Zs ?_))))))))
 refine Zqt (.rd 0 (.rd 1 .done)) ?_
 refine Zr 0 2 [] ?_
 refine Zd (Zt (Ze ?_))
 refine Zq1 (v:=.slice ad29 (((l++([(IntKind.u8.wrap (iShr .u16 n 8):Int)]))++([(IntKind.u8.wrap (iShr .u16 n 0):Int)])).length) c30) ?_
 have hs31:St w0 ((Sl (some ⟨b21,0,none⟩) 1 5 1 byteC ([(IntKind.u8.wrap (iShr .u16 n 0):Int)]))::(Sl (some ⟨b11,0,none⟩) 1 5 1 byteC ([(IntKind.u8.wrap (iShr .u16 n 8):Int)]))::(Sl ad29 c30 5 1 byteC ((l++([(IntKind.u8.wrap (iShr .u16 n 8):Int)]))++([(IntKind.u8.wrap (iShr .u16 n 0):Int)])))::L) w26:=(((hs27.pull 0 rfl).pull 2 rfl).pull 2 rfl)
 have hs32:St w0 ((Sl ad29 c30 5 1 byteC ((l++([(IntKind.u8.wrap (iShr .u16 n 8):Int)]))++([(IntKind.u8.wrap (iShr .u16 n 0):Int)])))::L) w26:=hs31.drop 2
 exact⟨ad29,c30,by rw [← hf_app],by rw [← hf_app];exact hs32⟩
theorem half_spec {w0 w:World}{L:List Asn}{ad:Option Addr}{c:Nat}(l:List Int) (n:Int) (hl:l.length≤900000) (hn:0≤n∧n<65536) (hs:St w0 ((Sl ad c 5 1 byteC l)::L) w):Calls Tryz.prog 47 #[.slice ad l.length c,.int .u16 n] w (Ret fun rv w'=>∃ (ao:Option Addr) (co:Nat),rv=.slice ao ((l++hf n).length) co∧St w0 ((Sl ao co 5 1 byteC (l++hf n))::L) w'):=by
 refine Zen (args:=[.slice ad l.length c,.int .u16 n]) Tryz.func47 Tryz.ntmps47 ?_
 refine Zn [(0,.slice ad l.length c),(1,.int .u16 n)] ?_
 refine Zs ?_
 refine Zqt (.rd 0 .done) ?_
 refine Zr 0 1 [] ?_
 refine Zd (Zt (Zs ?_))
 refine Zqt (.rd 0 (.rd 1 (.ef 2 (.rd 3 .done)))) ?_
 refine Zr 0 2 [] ?_
 refine Zqa (f:=67) (args:=#[.slice ad l.length c,.int .u16 n,.int .i64 2]) Tryz.call67 (putH_spec l n (by first|assumption|omega) (by first|assumption|omega) hs) ?_
 rintro v4 w5 ⟨ao1,co2,rfl,hs3⟩
 refine⟨Zqo,?_⟩
 refine Zr 3 1 [] ?_
 refine Zd (Zt (Ze ?_))
 refine Zq1 (v:=.slice ao1 ((l++hf n).length) co2) ?_
 exact⟨ao1,co2,rfl,hs3⟩
def tx (s:ByteArray):List Int:=hf (s.size:Nat)++strB s
theorem tx_length (s:ByteArray):(tx s).length=2+s.size:=by rw [tx,lA,hf_length,strB_length]
theorem text_spec {w0 w:World}{L:List Asn}{ad:Option Addr}{c:Nat}(l:List Int) (s:ByteArray) (hl:l.length≤800000) (hsz:s.size<65536) (hs:St w0 ((Sl ad c 5 1 byteC l)::L) w):Calls Tryz.prog 20 #[.slice ad l.length c,.string s] w (Ret fun rv w'=>∃ (ao:Option Addr) (co:Nat),rv=.tuple #[.slice ao ((l++tx s).length) co,.int .i64 0]∧St w0 ((Sl ao co 5 1 byteC (l++tx s))::L) w'):=by
 refine Zen (args:=[.slice ad l.length c,.string s]) Tryz.func20 Tryz.ntmps20 ?_
 refine Zn [(0,.slice ad l.length c),(1,.string s)] ?_
 refine Zs ?_
 refine Zqt (.rd 0 (.rd 1 .done)) ?_
 refine Zr 0 2 [] ?_
 refine Zd (Zt (Zs (Zs ?_)))
 refine Zqt (.rd 0 (.rd 1 (.rd 2 .done))) ?_
 refine Zr 0 3 [] ?_
 refine Zd (Zt ?_)
 refine Zqc (t:=decide (((s.size:Nat):Int) ≥ 65536)) (fun h1=>?_) (fun h1=>?_)
 ·have h1':((s.size:Nat):Int) ≥ 65536:=of_decide_eq_true h1
  exfalso;omega
 ·have h1':¬ (((s.size:Nat):Int) ≥ 65536):=of_decide_eq_false h1
  refine Zk (Zt (Zs ?_))
  refine Zqt (.rd 0 (.rd 1 (.rd 2 (.rd 3 (.ef 4 (.rd 5 (.ef 6 (.rd 7 (.rd 8 .done))))))))) ?_
  refine Zp 0 4 [(3,.as_ (.int .u16 (s.size:Nat)) (.gen []))] [(3,[.prop (Value.int .u16 (IntKind.u16.wrap (s.size:Nat))=Value.int .u16 (s.size:Nat))])] (ak (okp (u16ok (by omega) (by omega)) ok0) ak0) ?_
  refine Zqa (f:=47) (args:=#[.slice ad l.length c,.int .u16 (s.size:Nat)]) Tryz.call47 (half_spec l (s.size:Nat) (by omega) (by omega) hs) ?_
  rintro v5 w6 ⟨ao2,co3,rfl,hs4⟩
  refine⟨Zqo,?_⟩
  refine Zr 5 1 [] ?_
  refine GoR.appendStr rfl (by kernel_rfl) bytesOK (u:=9) (by kernel_rfl) (f:=byteC) rfl (ad:=ao2) (c:=co3) (xs:=l++hf (s.size:Nat)) (s:=s) (by kernel_rfl) hs4 (by simp only [lA,hf_length];omega) ?_
  intro ad9 c10 w7 hs8
  refine⟨Zqo,?_⟩
  refine Zr 7 2 [] ?_
  refine Zd (Zt (Ze ?_))
  refine Zq2 (v:=.slice ad9 (((l++hf (s.size:Nat))++strB s).length) c10) (v':=.int .i64 0) ?_
  exact⟨ad9,c10,by rw [(show(l++hf (s.size:Nat))++strB s=l++tx s from List.append_assoc ..)],by rw [← (show(l++hf (s.size:Nat))++strB s=l++tx s from List.append_assoc ..)];exact hs8⟩
theorem numB_hf {v:Int}(h:0≤v∧v<65536):numB (hf v)=v:=by
 obtain⟨n,rfl⟩:∃ n:Nat,v=n:=⟨v.toNat,by omega⟩
 have e1:IntKind.u8.wrap (iShr .u16 (n:Int) 8)=((n / 256:Nat):Int):=by
  show((n:Int).fdiv (2 ^ (min (Int.toNat (8:Int)) 16))) % 256=_
  show((n:Int).fdiv 256) % 256=_
  rw [Int.fdiv_eq_ediv_of_nonneg _ (by decide)]
  omega
 have e2:IntKind.u8.wrap (iShr .u16 (n:Int) 0)=((n % 256:Nat):Int):=by
  show((n:Int).fdiv (2 ^ (min (Int.toNat (0:Int)) 16))) % 256=_
  show((n:Int).fdiv 1) % 256=_
  rw [Int.fdiv_eq_ediv_of_nonneg _ (by decide)]
  omega
 rw [hf,e1,e2]
 show iOr .u64 (iShl .u64 (iOr .u64 (iShl .u64 0 8) (IntKind.u64.wrap ((n / 256:Nat):Int))) 8) (IntKind.u64.wrap ((n % 256:Nat):Int))=_
 have e3:iOr .u64 (iShl .u64 0 8) ((n / 256:Nat):Int)=((n / 256:Nat):Int):=by
  rw [or8 (a:=0) (by omega) (by omega) (by omega)]
  omega
 rw [u64_id (by omega) (by omega),u64_id (by omega) (by omega),e3,or8 (by omega) (by omega) (by omega)]
 omega
theorem u16_id {v:Int}(h:0≤v∧v<65536):IntKind.u16.wrap v=v:=by
 show v % 65536=v
 omega
theorem numB_one {v:Int}(h:0≤v∧v<256):numB [v]=v:=by
 show iOr .u64 (iShl .u64 0 8) (IntKind.u64.wrap v)=v
 rw [u64_id (by omega) (by omega),or8 (by omega) h (by omega)]
 omega
theorem u8_id {v:Int}(h:0≤v∧v<256):IntKind.u8.wrap v=v:=by
 show v % 256=v
 omega
abbrev CS:=List Int×Bool
def tk (n:Nat) (s:CS):List Int×CS:=if s.2=true∨s.1.length<n then ([],(s.1,true)) else (s.1.take n,(s.1.drop n,false))
def numP (n:Nat) (s:CS):Int×CS:=(numB (tk n s).1,(tk n s).2)
def byteP (s:CS):Int×CS:=(IntKind.u8.wrap (numB (tk 1 s).1),(tk 1 s).2)
def halfP (s:CS):Nat×CS:=((IntKind.u16.wrap (numB (tk 2 s).1)).toNat,(tk 2 s).2)
def wordP (s:CS):Int×CS:=numP 8 s
def textP (most:Int) (s:CS):ByteArray×CS :=
 let h:=halfP s
 let t:=tk h.1 (h.2.1,h.2.2 || (decide ((h.1:Int)>most)))
 if t.2.2=true then (⟨#[]⟩,(s.1,true)) else (strOf t.1,t.2)
def Som (ad:Option Addr) (c:Nat):Prop:=(∃ b off,ad=some ⟨b,off,none⟩)∨(ad=none∧c=0)
theorem Som.sub {ad:Option Addr}{c n:Nat}(h:Som ad c):Som (subAd ad c n 1) (c-n):=by
 rcases h with h|⟨rfl,rfl⟩
 ·exact .inl (subAd_some h)
 ·refine .inr ⟨?_,by omega⟩
  unfold subAd
  split<;>rfl
theorem own_som {α:Type}{w0 w:World}{L:List Asn}{ad:Option Addr}{c size:Nat}{e:TypeId}{f:α→Array Value}{l:List α}(hs:St w0 L w) (i:Nat) (hi:L[i]?=some (Sl ad c e size f l)):Som ad c:=by
 have h:w.ownsRow 0 e size (.slice ad l.length c) l.length (l.flatMap fun x=>(f x).toList):=hs.at_ i hi
 rcases h.2 with⟨h1,h2⟩|⟨g,cap,cur,hv,_⟩
 ·simp only [Value.slice.injEq] at h1
  exact .inr ⟨h1.1,h1.2.2⟩
 ·simp only [Value.slice.injEq] at hv
  exact .inl ⟨g,0,hv.1⟩
structure CutOK (Q:Asn) (az:Option Addr) (r:List Int) (cz:Nat):Prop where
 cap:r.length≤cz
 som:Som az cz
 row:∀ w,Q.holds w→RowsAt w az r.length 1 (fun k=>byteC (r.getD k (0:Int)))
 byt:∀ z∈r,0≤z∧z<256
 len:r.length≤1000000
theorem CutOK.drop {Q:Asn}{az:Option Addr}{r:List Int}{cz:Nat}(h:CutOK Q az r cz){n:Nat}(hn:n≤r.length):CutOK Q (subAd az cz n 1) (r.drop n) (cz-n) :=
 ⟨by have:=h.cap;rw [List.length_drop];omega,h.som.sub,fun w hw=>RowsAt.dropL (h.row w hw) h.cap hn,fun z hz=>h.byt z (List.mem_of_mem_drop hz),by have:=h.len;rw [List.length_drop];omega⟩
theorem tk_bad {n:Nat}{r:List Int}{sp:Bool}(h:sp=true∨r.length<n):tk n (r,sp)=([],(r,true)):=if_pos h
theorem tk_ok {n:Nat}{r:List Int}{sp:Bool}(h1:sp=false) (h2:n≤r.length):tk n (r,sp)=(r.take n,(r.drop n,false)):=if_neg (by rw [h1];simp;omega)
theorem numB_rng:∀ (l:List Int),0≤numB l∧numB l<18446744073709551616:=by
 intro l
 rcases List.eq_nil_or_concat l with rfl|⟨q,x,rfl⟩
 ·exact⟨Int.le_refl 0,by decide⟩
 ·have e:numB (q++[x])=iOr .u64 (iShl .u64 (numB q) 8) (IntKind.u64.wrap x):=by simp only [numB,List.foldl_append,List.foldl_cons,List.foldl_nil]
  rw [List.concat_eq_append,e]
  show 0≤IntKind.u64.wrap _∧IntKind.u64.wrap _<_
  exact⟨Int.emod_nonneg _ (by decide),Int.emod_lt_of_pos _ (by decide)⟩
theorem take_spec {w0 w:World}{L:List Asn}{c:Nat}{az:Option Addr}{cz:Nat}(Q:Asn) (r:List Int) (sp:Bool) (n:Nat) (hQ:∀ w,St w0 L w→Q.holds w) (hq:CutOK Q az r cz) (hs:St w0 ((Cel c #[.slice az r.length cz,.bool sp] 124)::L) w):Calls Tryz.prog 55 #[zP c 0,.int .i64 (n:Nat)] w (Ret fun rv w'=>(rv=.slice az ((r.take n).length) cz∧sp=false∧n≤r.length∧St w0 ((Cel c #[.slice (subAd az cz n 1) ((r.drop n).length) (cz-n),.bool false] 124)::L) w')∨(rv=.slice none 0 0∧(sp=true∨r.length<n)∧St w0 ((Cel c #[.slice az r.length cz,.bool true] 124)::L) w')):=by
 refine Zen (args:=[zP c 0,.int .i64 (n:Nat)]) Tryz.func55 Tryz.ntmps55 ?_
 refine Zn [(0,zP c 0),(1,.int .i64 (n:Nat))] ?_
 refine Zs ?_
 have hcap:=hq.cap
 refine Zqt (.rd 0 .done) ?_
 refine Zr 0 1 [] ?_
 refine Zd (Zt (Zs (Zs ?_)))
 refine Zqt (.rd 0 (.rd 1 .done)) ?_
 refine Zr 0 2 [] ?_
 refine Zd (Zt (ZqF (Zk (Zt (Zs (Zs ?_))))))
 refine Zqt (.rd 0 (.rd 1 (.rd 2 (.rd 3 (.rd 4 (.rd 5 (.rd 6 (.rd 7 (.rd 8 (.rd 9 (.rd 10 (.rd 11 (.rd 12 (.rd 13 (.rd 14 (.rd 15 (.rd 16 (.rd 17 (.rd 18 (.rd 19 (.ef 20 .done))))))))))))))))))))) ?_
 refine Zp 0 6 [(4,.gen [.bool sp])] [(4,[.cell ⟨c,1,none⟩ (.bool sp)])] (ak (okc (hs.cell 0 rfl (by kernel_rfl)) ok0) ak0) ?_
 rcases Bool.eq_false_or_eq_true sp with h1|h1
 ·refine Zqs 13 true h1 ?_
  refine Zr 6 14 [] ?_
  refine Zw (b:=c) (off:=1) (v:=.bool true) (ti:=Tryz.t4) (by kernel_rfl) hs 0 (L':=(Cel c #[.slice az r.length cz,.bool true] 124)::L) ?_
  intro w2 hs3
  refine⟨Zqo,?_⟩
  refine Zd (Zt (Zs ?_))
  refine Zqt (.rd 0 (.rd 1 (.rd 2 (.rd 3 .done)))) ?_
  refine Zp 0 4 [(3,.gen [.bool true])] [(3,[.cell ⟨c,1,none⟩ (.bool true)])] (ak (okc (hs3.cell 0 rfl (by kernel_rfl)) ok0) ak0) ?_
  refine Zd (Zt (ZqT (Zs ?_)))
  refine Zqt (.rd 0 .done) ?_
  refine Zr 0 1 [] ?_
  refine Zd (Zt (Ze (Zy ?_)))
  refine Zq1 (v:=.slice none 0 0) ?_
  exact .inr (⟨rfl,(.inl h1),hs3⟩)
 ·refine Zqs 13 false h1 ?_
  refine Zr 6 4 [] ?_
  rcases Bool.eq_false_or_eq_true (decide (((n:Nat):Int)<0)) with h4|h4
  ·refine Zqs 17 true h4 ?_
   have h4':((n:Nat):Int)<0:=of_decide_eq_true h4
   exfalso;omega
  ·refine Zqs 17 false h4 ?_
   have h4':¬ (((n:Nat):Int)<0):=of_decide_eq_false h4
   refine Zp 10 10 [(14,.gen [.slice az r.length cz])] [(14,[.cell ⟨c,0,none⟩ (.slice az r.length cz)])] (ak (okc (hs.cell 0 rfl (by kernel_rfl)) ok0) ak0) ?_
   refine Zw (b:=c) (off:=1) (v:=.bool (decide (((n:Nat):Int)>(r.length:Nat)))) (ti:=Tryz.t4) (by kernel_rfl) hs 0 (L':=(Cel c #[.slice az r.length cz,.bool (decide (((n:Nat):Int)>(r.length:Nat)))] 124)::L) ?_
   intro w5 hs6
   refine⟨Zqo,?_⟩
   refine Zd (Zt (Zs ?_))
   refine Zqt (.rd 0 (.rd 1 (.rd 2 (.rd 3 .done)))) ?_
   refine Zp 0 4 [(3,.gen [.bool (decide (((n:Nat):Int)>(r.length:Nat)))])] [(3,[.cell ⟨c,1,none⟩ (.bool (decide (((n:Nat):Int)>(r.length:Nat))))])] (ak (okc (hs6.cell 0 rfl (by kernel_rfl)) ok0) ak0) ?_
   refine Zd (Zt ?_)
   refine Zqc (t:=decide (((n:Nat):Int)>(r.length:Nat))) (fun h7=>?_) (fun h7=>?_)
   ·have h7':((n:Nat):Int)>(r.length:Nat):=of_decide_eq_true h7
    refine Zs ?_
    refine Zqt (.rd 0 .done) ?_
    refine Zr 0 1 [] ?_
    refine Zd (Zt (Ze (Zy ?_)))
    refine Zq1 (v:=.slice none 0 0) ?_
    rw [h7] at hs6
    exact .inr (⟨rfl,(.inr (by omega)),hs6⟩)
   ·have h7':¬ (((n:Nat):Int)>(r.length:Nat)):=of_decide_eq_false h7
    refine Zk (Zt (Zs ?_))
    refine Zqt (.rd 0 (.rd 1 (.rd 2 (.rd 3 (.rd 4 (.rd 5 (.rd 6 .done))))))) ?_
    refine Zp 0 7 [(3,.gen [.slice az r.length cz]),(5,.as_ (.slice az (((r).take n).length) cz) (.sub 0 n))] [(3,[.cell ⟨c,0,none⟩ (.slice az r.length cz)]),(5,[.prop (((n:Nat):Int)=((n:Nat):Int)),.prop (((none:Option Operand)=none→(0:Nat)=0)∧(some (Operand.tmp 36)=none→(n:Nat)=r.length)∧(0:Nat)≤n∧(n:Nat)≤cz),.prop (Value.slice (if cz=0 then az else (az:Option Addr).map (fun a=>a.add (0*1))) (n-0) (cz-0)=Value.slice az (((r).take n).length) cz)])] (ak (okc (hs6.cell 0 rfl (by kernel_rfl)) ok0) (ak (okp (by omega) (okp ⟨(by first|(intro _;rfl)|(intro hc;cases hc)),(by first|(intro _;rfl)|(intro hc;cases hc)),(by omega),(by omega)⟩ (okp (subSl0 (by simp only [List.length_take,List.length_drop]<;>omega)) ok0))) ak0)) ?_
    refine Zd (Zt (Zs ?_))
    refine Zqt (.rd 0 (.rd 1 (.rd 2 (.rd 3 (.rd 4 (.rd 5 (.rd 6 (.rd 7 (.rd 8 (.ef 9 .done)))))))))) ?_
    refine Zp 0 9 [(4,.gen [.slice az r.length cz]),(6,.as_ (.slice (subAd az cz n 1) (((r).drop n).length) (cz-n)) (.sub n r.length))] [(4,[.cell ⟨c,0,none⟩ (.slice az r.length cz)]),(6,[.prop (((n:Nat):Int)=((n:Nat):Int)),.prop ((some (Operand.tmp 43)=none→(n:Nat)=0)∧((none:Option Operand)=none→(r.length:Nat)=r.length)∧(n:Nat)≤r.length∧(r.length:Nat)≤cz),.prop (Value.slice (if cz=n then az else (az:Option Addr).map (fun a=>a.add (n*1))) (r.length-n) (cz-n)=Value.slice (subAd az cz n 1) (((r).drop n).length) (cz-n))])] (ak (okc (hs6.cell 0 rfl (by kernel_rfl)) ok0) (ak (okp (by omega) (okp ⟨(by first|(intro _;rfl)|(intro hc;cases hc)),(by first|(intro _;rfl)|(intro hc;cases hc)),(by omega),(by omega)⟩ (okp (subSl (by simp only [List.length_take,List.length_drop]<;>omega)) ok0))) ak0)) ?_
    refine Zw (b:=c) (off:=0) (v:=.slice (subAd az cz n 1) (((r).drop n).length) (cz-n)) (ti:=Tryz.t39) (by kernel_rfl) hs6 0 (L':=(Cel c #[.slice (subAd az cz n 1) (((r).drop n).length) (cz-n),.bool (decide (((n:Nat):Int)>(r.length:Nat)))] 124)::L) ?_
    intro w8 hs9
    refine⟨Zqo,?_⟩
    refine Zd (Zt (Zs ?_))
    refine Zqt (.rd 0 (.rd 1 .done)) ?_
    refine Zr 0 2 [] ?_
    refine Zd (Zt (Ze ?_))
    refine Zq1 (v:=.slice az (((r).take n).length) cz) ?_
    rw [h7] at hs9
    exact .inl ⟨rfl,h1,(by omega),hs9⟩
theorem sum_spec {w0 w:World}{L:List Asn}{c:Nat}{az:Option Addr}{cz:Nat}(Q:Asn) (r:List Int) (sp:Bool) (n:Nat) (hQ:∀ w,St w0 L w→Q.holds w) (hq:CutOK Q az r cz) (hs:St w0 ((Cel c #[.slice az r.length cz,.bool sp] 124)::L) w):Calls Tryz.prog 56 #[.func (.func 55) #[zP c 0] #[],.int .i64 (n:Nat)] w (Ret fun rv w'=>∃ (vv2:Int) (rr2:List Int) (sp2:Bool) (az2:Option Addr) (cz2:Nat),rv=.int .u64 vv2∧numP n (r,sp)=(vv2,(rr2,sp2))∧CutOK Q az2 rr2 cz2∧St w0 ((Cel c #[.slice az2 rr2.length cz2,.bool sp2] 124)::L) w'):=by
 refine Zen (args:=[.func (.func 55) #[zP c 0] #[],.int .i64 (n:Nat)]) Tryz.func56 Tryz.ntmps56 ?_
 refine Zn [(0,.func (.func 55) #[zP c 0] #[]),(1,.int .i64 (n:Nat))] ?_
 refine Zs ?_
 have hrl:=hq.len
 refine Zqt (.rd 0 .done) ?_
 refine Zr 0 1 [] ?_
 refine Zd (Zt (Zs (Zs ?_)))
 refine Zqt (.rd 0 (.rd 1 (.ef 2 (.rd 3 (.rd 4 .done))))) ?_
 refine Zr 0 2 [] ?_
 refine Zqa (f:=55) (args:=#[zP c 0,.int .i64 (n:Nat)]) Tryz.call55 (take_spec Q r sp n (fun w h=>hQ w (h.drop 0)) (by first|assumption|omega) hs) ?_
 rintro v6 w7 (⟨rfl,hsf1,hnr2,hs3⟩|⟨rfl,hbad4,hs5⟩)
 ·refine⟨Zqo,?_⟩
  refine Zr 3 2 [] ?_
  refine Zd (Zt (Zb ?_))
  refine GoC.loop (T:=Nat×Int×(Option Addr)) (fun gg=>[(4,.int .u64 gg.2.1),(9,.slice gg.2.2 ((r.take n).length) cz),(10,.int .i64 ((r.take n).length:Nat)),(11,.int .i64 (gg.1:Nat))]) (fun gg w=>(gg.1≤(r.take n).length∧gg.2.1=numB ((r.take n).take gg.1)∧∀ w,St w0 L w→RowsAt w gg.2.2 (r.take n).length 1 (fun k=>byteC ((r.take n).getD k (0:Int))))∧St w0 ((Cel c #[.slice (subAd az cz n 1) ((r.drop n).length) (cz-n),.bool false] 124)::L) w) (fun gg=>(r.take n).length-gg.1) (0,0,az) [4,9,10,11] (by kernel_rfl) ⟨⟨Nat.zero_le _,rfl,fun w h=>RowsAt.takeL (hq.row w (hQ w h)) n hnr2⟩,hs3⟩ ?_
  rintro⟨jj,z,aq⟩ w8 ⟨hp0,hs9⟩
  have hp:jj≤(r.take n).length∧z=numB ((r.take n).take jj)∧∀ w,St w0 L w→RowsAt w aq (r.take n).length 1 (fun k=>byteC ((r.take n).getD k (0:Int))):=hp0
  have hs10:St w0 ((Cel c #[.slice (subAd az cz n 1) ((r.drop n).length) (cz-n),.bool false] 124)::L) w8:=hs9
  refine Zn [(4,.int .u64 z),(9,.slice aq ((r.take n).length) cz),(10,.int .i64 ((r.take n).length:Nat)),(11,.int .i64 (jj:Nat))] ?_
  have hw:=hp.2.2
  have htl:(r.take n).length=n:=by rw [List.length_take];omega
  refine Zs ?_
  refine Zqt (.rd 0 .done) ?_
  refine Zr 0 1 [] ?_
  refine Zd (Zt (Zs ?_))
  refine Zqc (t:=decide (((jj:Nat):Int)<((r.take n).length:Nat))) (fun h11=>?_) (fun h11=>?_)
  ·have h11':((jj:Nat):Int)<((r.take n).length:Nat):=of_decide_eq_true h11
   obtain⟨ab12,ao13,rfl⟩:=RowsAt.isSome (hw _ (hs10.drop 1)) (by omega)
   refine Zk (Zt (Zs (Zb (Zs ?_))))
   refine Zqt (.rd 0 (.rd 1 (.rd 2 .done))) ?_
   refine Zp 0 3 [(0,.as_ (zP ab12 (ao13+(jj*1))) .at_),(1,.gen [.int .u8 ((r.take n).getD jj (0:Int))])] [(0,[.prop (0≤((jj:Nat):Int)∧((jj:Nat):Int)<(((r.take n).length:Nat):Int)),.prop (Value.pointer (some (Addr.add ⟨ab12,ao13,none⟩ (Int.toNat (jj:Nat)*1)))=Value.pointer (some ⟨ab12,ao13+(jj*1),none⟩))]),(1,[.cell ⟨ab12,ao13+(jj*1),none⟩ (.int .u8 ((r.take n).getD jj (0:Int)))])] (ak (okp (by omega) (okp (ptrAdd _ _ _) ok0)) (ak (okc (RowsAt.at0 (hw _ (hs10.drop 1)) (k:=jj) (by first|omega|(simp only [List.length_set];omega)|(simp only [List.length_set,lA,lC,lN];omega)) (j:=0) (by decide) (by kernel_rfl)) ok0) ak0)) ?_
   refine Zd (Zt ?_)
   refine Zqt (.rd 0 (.rd 1 (.rd 2 (.rd 3 (.rd 4 (.rd 5 .done)))))) ?_
   refine Zp 0 6 [(1,.shift (iShl .u64 z 8))] [(1,[.prop ((0:Int)≤8∧IntKind.u64.wrap (z*2 ^ (min (Int.toNat 8) (IntKind.bits .u64)))=iShl .u64 z 8)])] (ak (okp ⟨(by first|omega|exact uwrap_nn rfl _),rfl⟩ ok0) ak0) ?_
   refine Zd (Zm (Zt ?_))
   refine Zqt (.rd 0 (.rd 1 .done)) ?_
   refine Zp 0 2 [(0,.as_ (.int .i64 ((jj:Nat)+1)) (.gen []))] [(0,[.prop (Value.int .i64 (IntKind.i64.wrap ((jj:Nat)+1))=Value.int .i64 ((jj:Nat)+1))])] (ak (okp (i64ok (by omega) (by omega)) ok0) ak0) ?_
   refine Zd ?_
   exact GoQ.back (jj+1,iOr .u64 (iShl .u64 z 8) (IntKind.u64.wrap ((r.take n).getD jj (0:Int))),some ⟨ab12,ao13,none⟩) [4,9,10,11] (by kernel_rfl) (by show(r.take n).length-(jj+1)<(r.take n).length-jj;omega) ⟨⟨by omega,by rw [numB_succ (by omega),← hp.2.1],hw⟩,hs10⟩
  ·have h11':¬ (((jj:Nat):Int)<((r.take n).length:Nat)):=of_decide_eq_false h11
   have hke:jj=(r.take n).length:=by omega
   refine Zx (GoQ.skipC (GoQ.skipL (GoQ.hit (Zt (Zs ?_)))))
   refine Zqt (.rd 0 (.rd 1 .done)) ?_
   refine Zr 0 2 [] ?_
   refine Zd (Zt (Ze ?_))
   refine Zq1 (v:=.int .u64 z) ?_
   exact⟨(numB (r.take n)),(r.drop n),false,(subAd az cz n 1),(cz-n),(by rw [hp.2.1,hke,List.take_length]),(show(numB (tk n (r,sp)).1,(tk n (r,sp)).2)=_ by rw [tk_ok hsf1 hnr2]),(hq.drop hnr2),hs10⟩
 ·refine⟨Zqo,?_⟩
  refine Zr 3 2 [] ?_
  refine Zd (Zt (Zb ?_))
  refine GoC.unroll 1 ?_
  refine Zs ?_
  refine Zqt (.rd 0 .done) ?_
  refine Zr 0 1 [] ?_
  refine Zd (Zt (Zs (ZqF (Zx (GoQ.skipC (GoQ.skipL (GoQ.hit (Zt (Zs ?_)))))))))
  refine Zqt (.rd 0 (.rd 1 .done)) ?_
  refine Zr 0 2 [] ?_
  refine Zd (Zt (Ze ?_))
  refine Zq1 (v:=.int .u64 0) ?_
  exact⟨0,r,true,az,cz,rfl,(show(numB (tk n (r,sp)).1,(tk n (r,sp)).2)=_ by rw [tk_bad hbad4];rfl),hq,hs5⟩
theorem wordP_rng {s:CS}{v:Int}{s2:CS}(h:wordP s=(v,s2)):0≤v∧v<18446744073709551616:=by
 have h1:(wordP s).1=v:=by rw [h]
 rw [← h1]
 exact numB_rng _
theorem byteP_rng {s:CS}{v:Int}{s2:CS}(h:byteP s=(v,s2)):0≤v∧v<256:=by
 have h1:(byteP s).1=v:=by rw [h]
 rw [← h1]
 show 0≤numB _ % 256∧numB _ % 256<256
 omega
theorem halfP_rng {s:CS}{v:Nat}{s2:CS}(h:halfP s=(v,s2)):v<65536:=by
 have h1:(halfP s).1=v:=by rw [h]
 rw [← h1]
 show(numB _ % 65536).toNat<65536
 omega
theorem cutWord_spec {w0 w:World}{L:List Asn}{c:Nat}{az:Option Addr}{cz:Nat}(Q:Asn) (r:List Int) (sp:Bool) (hQ:∀ w,St w0 L w→Q.holds w) (hq:CutOK Q az r cz) (hs:St w0 ((Cel c #[.slice az r.length cz,.bool sp] 124)::L) w):Calls Tryz.prog 31 #[zP c 0] w (Ret fun rv w'=>∃ (vv2:Int) (rr2:List Int) (sp2:Bool) (az2:Option Addr) (cz2:Nat),rv=.int .u64 vv2∧wordP (r,sp)=(vv2,(rr2,sp2))∧(0≤vv2∧vv2<18446744073709551616)∧CutOK Q az2 rr2 cz2∧St w0 ((Cel c #[.slice az2 rr2.length cz2,.bool sp2] 124)::L) w'):=by
 refine Zen (args:=[zP c 0]) Tryz.func31 Tryz.ntmps31 ?_
 refine Zn [(0,zP c 0)] ?_
 refine Zs ?_
 refine Zqt (.rd 0 .done) ?_
 refine Zr 0 1 [] ?_
 refine Zd (Zt (Zs ?_))
 refine Zqt (.rd 0 (.rd 1 (.rd 2 .done))) ?_
 refine Zr 0 3 [] ?_
 refine Zd (Zt (Zs ?_))
 refine Zqt (.rd 0 (.ef 1 (.rd 2 .done))) ?_
 refine Zr 0 1 [] ?_
 refine Zqa (f:=56) (args:=#[.func (.func 55) #[zP c 0] #[],.int .i64 (8:Nat)]) Tryz.call56 (sum_spec Q r sp 8 (fun w h=>hQ w (h.drop 0)) (by first|assumption|omega) hs) ?_
 rintro v9 w10 ⟨vv1,rr2,sp3,az4,cz5,rfl,he6,hq27,hs8⟩
 refine⟨Zqo,?_⟩
 refine Zr 2 1 [] ?_
 refine Zd (Zt (Ze ?_))
 refine Zq1 (v:=.int .u64 vv1) ?_
 exact⟨vv1,rr2,sp3,az4,cz5,rfl,he6,(wordP_rng he6),hq27,hs8⟩
theorem cutByte_spec {w0 w:World}{L:List Asn}{c:Nat}{az:Option Addr}{cz:Nat}(Q:Asn) (r:List Int) (sp:Bool) (hQ:∀ w,St w0 L w→Q.holds w) (hq:CutOK Q az r cz) (hs:St w0 ((Cel c #[.slice az r.length cz,.bool sp] 124)::L) w):Calls Tryz.prog 30 #[zP c 0] w (Ret fun rv w'=>∃ (vv2:Int) (rr2:List Int) (sp2:Bool) (az2:Option Addr) (cz2:Nat),rv=.int .u8 vv2∧byteP (r,sp)=(vv2,(rr2,sp2))∧(0≤vv2∧vv2<256)∧CutOK Q az2 rr2 cz2∧St w0 ((Cel c #[.slice az2 rr2.length cz2,.bool sp2] 124)::L) w'):=by
 refine Zen (args:=[zP c 0]) Tryz.func30 Tryz.ntmps30 ?_
 refine Zn [(0,zP c 0)] ?_
 refine Zs ?_
 refine Zqt (.rd 0 .done) ?_
 refine Zr 0 1 [] ?_
 refine Zd (Zt (Zs ?_))
 refine Zqt (.rd 0 (.rd 1 (.rd 2 .done))) ?_
 refine Zr 0 3 [] ?_
 refine Zd (Zt (Zs ?_))
 refine Zqt (.rd 0 (.ef 1 (.rd 2 (.rd 3 .done)))) ?_
 refine Zr 0 1 [] ?_
 refine Zqa (f:=56) (args:=#[.func (.func 55) #[zP c 0] #[],.int .i64 (1:Nat)]) Tryz.call56 (sum_spec Q r sp 1 (fun w h=>hQ w (h.drop 0)) (by first|assumption|omega) hs) ?_
 rintro v9 w10 ⟨vv1,rr2,sp3,az4,cz5,rfl,he6,hq27,hs8⟩
 refine⟨Zqo,?_⟩
 refine Zr 2 2 [] ?_
 refine Zd (Zt (Ze ?_))
 refine Zq1 (v:=.int .u8 (IntKind.u8.wrap vv1)) ?_
 obtain⟨ha,hb⟩:numB (tk 1 (r,sp)).1=vv1∧(tk 1 (r,sp)).2=(rr2,sp3):=by
  have h9:=he6
  unfold numP at h9
  exact Prod.mk.inj h9
 have h9:byteP (r,sp)=(IntKind.u8.wrap vv1,(rr2,sp3)):=by unfold byteP;rw [ha,hb]
 exact⟨(IntKind.u8.wrap vv1),rr2,sp3,az4,cz5,rfl,h9,(byteP_rng h9),hq27,hs8⟩
theorem cutHalf_spec {w0 w:World}{L:List Asn}{c:Nat}{az:Option Addr}{cz:Nat}(Q:Asn) (r:List Int) (sp:Bool) (hQ:∀ w,St w0 L w→Q.holds w) (hq:CutOK Q az r cz) (hs:St w0 ((Cel c #[.slice az r.length cz,.bool sp] 124)::L) w):Calls Tryz.prog 57 #[zP c 0] w (Ret fun rv w'=>∃ (nn2:Nat) (rr2:List Int) (sp2:Bool) (az2:Option Addr) (cz2:Nat),rv=.int .u16 (nn2:Nat)∧halfP (r,sp)=(nn2,(rr2,sp2))∧nn2<65536∧CutOK Q az2 rr2 cz2∧St w0 ((Cel c #[.slice az2 rr2.length cz2,.bool sp2] 124)::L) w'):=by
 refine Zen (args:=[zP c 0]) Tryz.func57 Tryz.ntmps57 ?_
 refine Zn [(0,zP c 0)] ?_
 refine Zs ?_
 refine Zqt (.rd 0 .done) ?_
 refine Zr 0 1 [] ?_
 refine Zd (Zt (Zs ?_))
 refine Zqt (.rd 0 (.rd 1 (.rd 2 .done))) ?_
 refine Zr 0 3 [] ?_
 refine Zd (Zt (Zs ?_))
 refine Zqt (.rd 0 (.ef 1 (.rd 2 (.rd 3 .done)))) ?_
 refine Zr 0 1 [] ?_
 refine Zqa (f:=56) (args:=#[.func (.func 55) #[zP c 0] #[],.int .i64 (2:Nat)]) Tryz.call56 (sum_spec Q r sp 2 (fun w h=>hQ w (h.drop 0)) (by first|assumption|omega) hs) ?_
 rintro v9 w10 ⟨vv1,rr2,sp3,az4,cz5,rfl,he6,hq27,hs8⟩
 refine⟨Zqo,?_⟩
 refine Zr 2 2 [] ?_
 refine Zd (Zt (Ze ?_))
 refine Zq1 (v:=.int .u16 (IntKind.u16.wrap vv1)) ?_
 obtain⟨ha,hb⟩:numB (tk 2 (r,sp)).1=vv1∧(tk 2 (r,sp)).2=(rr2,sp3):=by
  have h9:=he6
  unfold numP at h9
  exact Prod.mk.inj h9
 have h9:halfP (r,sp)=((IntKind.u16.wrap vv1).toNat,(rr2,sp3)):=by unfold halfP;rw [ha,hb]
 have h7:0≤IntKind.u16.wrap vv1:=Int.emod_nonneg _ (by decide)
 exact⟨(IntKind.u16.wrap vv1).toNat,rr2,sp3,az4,cz5,(by rw [Int.toNat_of_nonneg h7]),h9,(halfP_rng h9),hq27,hs8⟩
theorem cutOk_spec {w0 w:World}{L:List Asn}{c:Nat}{az:Option Addr}{cz:Nat}(r:List Int) (sp:Bool) (hs:St w0 ((Cel c #[.slice az r.length cz,.bool sp] 124)::L) w):Calls Tryz.prog 36 #[zP c 0] w (Ret fun rv w'=>rv=.bool (!sp)∧St w0 ((Cel c #[.slice az r.length cz,.bool sp] 124)::L) w'):=by
 refine Zen (args:=[zP c 0]) Tryz.func36 Tryz.ntmps36 ?_
 refine Zn [(0,zP c 0)] ?_
 refine Zs ?_
 refine Zqt (.rd 0 .done) ?_
 refine Zr 0 1 [] ?_
 refine Zd (Zt (Zs ?_))
 refine Zqt (.rd 0 (.rd 1 (.rd 2 (.rd 3 (.rd 4 (.rd 5 (.rd 6 (.rd 7 (.rd 8 (.rd 9 .done)))))))))) ?_
 refine Zp 0 10 [(6,.gen [.bool sp])] [(6,[.cell ⟨c,1,none⟩ (.bool sp)])] (ak (okc (hs.cell 0 rfl (by kernel_rfl)) ok0) ak0) ?_
 refine Zd (Zt (Ze ?_))
 refine Zq1 (v:=.bool (!sp)) ?_
 exact⟨rfl,hs⟩
theorem cutLeft_spec {w0 w:World}{L:List Asn}{c:Nat}{az:Option Addr}{cz:Nat}(r:List Int) (sp:Bool) (hs:St w0 ((Cel c #[.slice az r.length cz,.bool sp] 124)::L) w):Calls Tryz.prog 37 #[zP c 0] w (Ret fun rv w'=>rv=.int .i64 (r.length:Nat)∧St w0 ((Cel c #[.slice az r.length cz,.bool sp] 124)::L) w'):=by
 refine Zen (args:=[zP c 0]) Tryz.func37 Tryz.ntmps37 ?_
 refine Zn [(0,zP c 0)] ?_
 refine Zs ?_
 refine Zqt (.rd 0 .done) ?_
 refine Zr 0 1 [] ?_
 refine Zd (Zt (Zs (Zs ?_)))
 refine Zqt (.rd 0 (.rd 1 .done)) ?_
 refine Zr 0 2 [] ?_
 refine Zd (Zt (ZqF (Zk (Zt (Zs ?_)))))
 refine Zqt (.rd 0 (.rd 1 (.rd 2 (.rd 3 (.rd 4 (.rd 5 .done)))))) ?_
 refine Zp 0 6 [(3,.gen [.slice az r.length cz])] [(3,[.cell ⟨c,0,none⟩ (.slice az r.length cz)])] (ak (okc (hs.cell 0 rfl (by kernel_rfl)) ok0) ak0) ?_
 refine Zd (Zt (Ze ?_))
 refine Zq1 (v:=.int .i64 (r.length:Nat)) ?_
 exact⟨rfl,hs⟩
theorem cloneR_spec {w0 w:World}{L:List Asn}{ab:Nat}{aoff:Nat}{ac:Nat}(l:List Int) (hl:l.length≤1000000000) (hrow:∀ w,St w0 L w→RowsAt w (some ⟨ab,aoff,none⟩) l.length 1 (fun k=>byteC (l.getD k (0:Int)))) (hs:St w0 (L) w):Calls Tryz.prog 54 #[zL ab aoff l.length ac] w (Ret fun rv w'=>∃ (ao:Option Addr) (co:Nat),rv=.slice ao l.length co∧St w0 ((Sl ao co 5 1 byteC l)::L) w'):=by
 refine Zen (args:=[zL ab aoff l.length ac]) Tryz.func54 Tryz.ntmps54 ?_
 refine Zn [(0,zL ab aoff l.length ac)] ?_
 refine Zs ?_
 refine Zqt (.rd 0 .done) ?_
 refine Zr 0 1 [] ?_
 refine Zd (Zt (Zs (Zs ?_)))
 refine Zqt (.rd 0 (.rd 1 .done)) ?_
 refine Zr 0 2 [] ?_
 refine Zd (Zt (ZqF (Zk (Zt (Zs ?_)))))
 refine Zqt (.ef 0 (.rd 1 (.ef 2 (.rd 3 .done)))) ?_
 refine GoR.sliceLit0 rfl (by kernel_rfl) (t:=39) (e:=5) (by kernel_rfl) (by kernel_rfl) (ti:=Tryz.t5) (by kernel_rfl) hs ?_
 intro b1 w2 hs3 hz4
 have hs5:St w0 ((Sl (some ⟨b1,0,none⟩) 0 5 1 byteC ([]:List Int))::L) w2:=St.slOf (l:=([]:List Int)) (f:=byteC) hs3 hz4 (byteF).size (by simp only [lC,lN,maxLen];omega) (by kernel_rfl)
 refine⟨Zqo,?_⟩
 refine Zr 1 1 [] ?_
 refine GoR.append rfl (by kernel_rfl) bytesOK byteF (ad:=some ⟨b1,0,none⟩) (c:=0) (xs:=([]:List Int)) (ys:=l) (adx:=some ⟨ab,aoff,none⟩) (cx:=ac) (0:Int) (by kernel_rfl) hs5 (hrow _ (hs5.drop 1)) (fun h=>nomatch h) (by simp only [lN];omega) (by simp only [lN];omega) ?_
 intro ad8 c9 w6 hs7
 refine⟨Zqo,?_⟩
 refine Zr 3 1 [] ?_
 refine Zd (Zt (Ze ?_))
 refine Zq1 (v:=.slice ad8 ((l).length) c9) ?_
 exact⟨ad8,c9,(by simp),hs7⟩
theorem cloneV_spec {w0 w:World}{L:List Asn}{ad:Option Addr}{c:Nat}(l:List Int) (hl:l.length≤1000000000) (hsm:Som ad c) (hr:∀ w,St w0 L w→RowsAt w ad l.length 1 (fun k=>byteC (l.getD k (0:Int)))) (hs:St w0 L w) :
 Calls Tryz.prog 54 #[.slice ad l.length c] w (Ret fun rv w'=>∃ (ao:Option Addr) (co:Nat),rv=.slice ao l.length co∧St w0 (Sl ao co 5 1 byteC l::L) w'):=by
 rcases hsm with⟨b,off,rfl⟩|⟨rfl,rfl⟩
 ·exact cloneR_spec l hl hr hs
 ·have hl0:l=[]:=by
   cases l with
   | nil=>rfl
   | cons x q=>obtain⟨b,off,e⟩:=RowsAt.isSome (hr _ hs) (Nat.succ_pos _);cases e
  subst hl0
  refine Calls.ret (cloneN_spec hs) ?_
  rintro v w1 ⟨rfl,h⟩
  exact⟨none,0,rfl,St.slNil h 5 1 byteC⟩
theorem strB_strOf {l:List Int}(h:∀ z∈l,0≤z∧z<256):strB (strOf l)=l:=by
 unfold strOf strB
 simp only [List.map_map]
 conv=>rhs;rw [← List.map_id l]
 exact List.map_congr_left fun z hz=>u8of_toNat (h z hz).1 (h z hz).2
theorem textP_bad {most:Int}{s:CS}{n:Nat}{r1:List Int}{p1:Bool}(h:halfP s=(n,(r1,p1))) (hb:(p1 || decide ((n:Int)>most))=true∨r1.length<n):textP most s=(⟨#[]⟩,(s.1,true)):=by
 unfold textP
 rw [h]
 simp only []
 rw [tk_bad hb]
 rfl
theorem textP_ok {most:Int}{s:CS}{n:Nat}{r1:List Int}(h:halfP s=(n,(r1,false))) (hm:(n:Int)≤most) (hn:n≤r1.length):textP most s=(strOf (r1.take n),(r1.drop n,false)):=by
 unfold textP
 rw [h]
 simp only []
 rw [tk_ok (by simp;omega) hn]
 rfl
theorem cutText_spec {w0 w:World}{L:List Asn}{c:Nat}{az:Option Addr}{cz:Nat}(Q:Asn) (r:List Int) (sp:Bool) (most:Int) (hQ:∀ w,St w0 L w→Q.holds w) (hq:CutOK Q az r cz) (hs:St w0 ((Cel c #[.slice az r.length cz,.bool sp] 124)::L) w):Calls Tryz.prog 32 #[zP c 0,.int .i64 most] w (Ret fun rv w'=>∃ (ss2:ByteArray) (rr2:List Int) (sp2:Bool) (az2:Option Addr) (cz2:Nat),rv=.string ss2∧textP most (r,sp)=(ss2,(rr2,sp2))∧CutOK Q az2 rr2 cz2∧St w0 ((Cel c #[.slice az2 rr2.length cz2,.bool sp2] 124)::L) w'):=by
 refine Zen (args:=[zP c 0,.int .i64 most]) Tryz.func32 Tryz.ntmps32 ?_
 refine Zn [(0,zP c 0),(1,.int .i64 most)] ?_
 refine Zs ?_
 refine Zqt (.rd 0 .done) ?_
 refine Zr 0 1 [] ?_
 refine Zd (Zt (Zs (Zs ?_)))
 refine Zqt (.rd 0 (.rd 1 .done)) ?_
 refine Zr 0 2 [] ?_
 refine Zd (Zt (ZqF (Zk (Zt (Zs ?_)))))
 refine Zqt (.rd 0 (.rd 1 (.rd 2 (.rd 3 (.rd 4 .done))))) ?_
 refine Zp 0 5 [(3,.gen [.slice az r.length cz])] [(3,[.cell ⟨c,0,none⟩ (.slice az r.length cz)])] (ak (okc (hs.cell 0 rfl (by kernel_rfl)) ok0) ak0) ?_
 refine Zd (Zt (Zs ?_))
 refine Zqt (.rd 0 (.ef 1 (.rd 2 (.rd 3 .done)))) ?_
 refine Zr 0 1 [] ?_
 refine Zqa (f:=57) (args:=#[zP c 0]) Tryz.call57 (cutHalf_spec Q r sp (fun w h=>hQ w (h.drop 0)) hq hs) ?_
 rintro v10 w11 ⟨nn1,rr2,sp3,az4,cz5,rfl,he6,hns7,hq28,hs9⟩
 refine⟨Zqo,?_⟩
 refine Zp 2 2 [(2,.as_ (.int .i64 (nn1:Nat)) (.gen []))] [(2,[.prop (Value.int .i64 (IntKind.i64.wrap (nn1:Nat))=Value.int .i64 (nn1:Nat))])] (ak (okp (i64ok (by omega) (by omega)) ok0) ak0) ?_
 refine Zd (Zt (Zs (Zs ?_)))
 refine GoC.join (T:=Unit) (E:=fun _=>[(26,.bool ((!sp3) && (decide (((nn1:Nat):Int)>most)))),(6,.int .i64 (nn1:Nat)),(5,.slice az r.length cz),(4,.string (⟨#[]⟩:ByteArray)),(0,zP c 0)]) (F:=fun _ w=>St w0 ((Cel c #[.slice az4 rr2.length cz5,.bool sp3] 124)::L) w) ?_ ?_
 ·refine Zqt (.rd 0 (.rd 1 (.rd 2 (.rd 3 (.rd 4 (.rd 5 (.rd 6 (.rd 7 (.rd 8 (.rd 9 .done)))))))))) ?_
  refine Zp 0 6 [(3,.gen [.bool sp3])] [(3,[.cell ⟨c,1,none⟩ (.bool sp3)])] (ak (okc (hs9.cell 0 rfl (by kernel_rfl)) ok0) ak0) ?_
  rcases Bool.eq_false_or_eq_true (!sp3) with h12|h12
  ·refine Zqs 22 true h12 ?_
   have h12n:sp3=false:=notT h12
   refine Zr 6 4 [] ?_
   refine Zd ?_
   refine GoQ.pick [26,6,5,4,0] (S':=[(26,.bool (decide (((nn1:Nat):Int)>most))),(6,.int .i64 (nn1:Nat)),(5,.slice az r.length cz),(4,.string (⟨#[]⟩:ByteArray)),(0,zP c 0)]) (by kernel_rfl) ?_
   exact GoQ.meet1 () (by first|rfl|(simp only [h12,h12n,Bool.not_true,Bool.not_false,Bool.true_or,Bool.false_or,Bool.true_and,Bool.false_and,Bool.or_true,Bool.or_false,Bool.and_true,Bool.and_false];done)|(simp [h12,h12n];done)) hs9
  ·refine Zqs 22 false h12 ?_
   have h12n:sp3=true:=notF h12
   refine Zr 6 4 [] ?_
   refine Zd ?_
   refine GoQ.pick [26,6,5,4,0] (S':=[(26,.bool false),(6,.int .i64 (nn1:Nat)),(5,.slice az r.length cz),(4,.string (⟨#[]⟩:ByteArray)),(0,zP c 0)]) (by kernel_rfl) ?_
   exact GoQ.meet1 () (by first|rfl|(simp only [h12,h12n,Bool.not_true,Bool.not_false,Bool.true_or,Bool.false_or,Bool.true_and,Bool.false_and,Bool.or_true,Bool.or_false,Bool.and_true,Bool.and_false];done)|(simp [h12,h12n];done)) hs9
 intro _ w13 hs14
 refine Zt ?_
 refine Zqc (t:=(!sp3) && (decide (((nn1:Nat):Int)>most))) (fun h15=>?_) (fun h15=>?_)
 ·have h15a:(!sp3)=true:=(Bool.and_eq_true_iff.1 h15).1
  have h15an:sp3=false:=notT h15a
  have h15b:(decide (((nn1:Nat):Int)>most))=true:=(Bool.and_eq_true_iff.1 h15).2
  have h15b':((nn1:Nat):Int)>most:=of_decide_eq_true h15b
  refine Zqt (.rd 0 (.rd 1 (.rd 2 (.ef 3 .done)))) ?_
  refine Zr 0 3 [] ?_
  refine Zw (b:=c) (off:=1) (v:=.bool true) (ti:=Tryz.t4) (by kernel_rfl) hs14 0 (L':=(Cel c #[.slice az4 rr2.length cz5,.bool true] 124)::L) ?_
  intro w16 hs17
  refine⟨Zqo,?_⟩
  refine Zd (Zt (Zs ?_))
  refine Zqt (.rd 0 (.rd 1 (.ef 2 (.rd 3 .done)))) ?_
  refine Zr 0 2 [] ?_
  refine Zqa (f:=55) (args:=#[zP c 0,.int .i64 (nn1:Nat)]) Tryz.call55 (take_spec Q rr2 true nn1 (fun w h=>hQ w (h.drop 0)) hq28 hs17) ?_
  rintro v23 w24 (⟨rfl,hsf18,hnr19,hs20⟩|⟨rfl,hbad21,hs22⟩)
  ·cases hsf18
  ·refine⟨Zqo,?_⟩
   refine Zr 3 1 [] ?_
   refine Zd (Zt (Zs (Zs ?_)))
   refine Zqt (.rd 0 (.rd 1 (.rd 2 (.rd 3 .done)))) ?_
   refine Zp 0 4 [(3,.gen [.bool true])] [(3,[.cell ⟨c,1,none⟩ (.bool true)])] (ak (okc (hs22.cell 0 rfl (by kernel_rfl)) ok0) ak0) ?_
   refine Zd (Zt (ZqT (Zs ?_)))
   refine Zqt (.rd 0 (.rd 1 (.rd 2 (.rd 3 (.ef 4 .done))))) ?_
   refine Zr 0 4 [] ?_
   refine Zw (b:=c) (off:=0) (v:=.slice az r.length cz) (ti:=Tryz.t39) (by kernel_rfl) hs22 0 (L':=(Cel c #[.slice az r.length cz,.bool true] 124)::L) ?_
   intro w25 hs26
   refine⟨Zqo,?_⟩
   refine Zd (Zt (Zs ?_))
   refine Zqt (.rd 0 .done) ?_
   refine Zr 0 1 [] ?_
   refine Zd (Zt (Ze (Zy ?_)))
   refine Zq1 (v:=.string (⟨#[]⟩:ByteArray)) ?_
   exact⟨⟨#[]⟩,r,true,az,cz,rfl,(textP_bad he6 (.inl (by rw [Bool.and_eq_true] at h15;rw [h15.2,Bool.or_true]))),hq,hs26⟩
 ·refine Zk (Zt (Zs ?_))
  refine Zqt (.rd 0 (.rd 1 (.ef 2 (.rd 3 .done)))) ?_
  refine Zr 0 2 [] ?_
  refine Zqa (f:=55) (args:=#[zP c 0,.int .i64 (nn1:Nat)]) Tryz.call55 (take_spec Q rr2 sp3 nn1 (fun w h=>hQ w (h.drop 0)) hq28 hs14) ?_
  rintro v32 w33 (⟨rfl,hsf27,hnr28,hs29⟩|⟨rfl,hbad30,hs31⟩)
  ·refine⟨Zqo,?_⟩
   refine Zr 3 1 [] ?_
   refine Zd (Zt (Zs (Zs ?_)))
   refine Zqt (.rd 0 (.rd 1 (.rd 2 (.rd 3 .done)))) ?_
   refine Zp 0 4 [(3,.gen [.bool false])] [(3,[.cell ⟨c,1,none⟩ (.bool false)])] (ak (okc (hs29.cell 0 rfl (by kernel_rfl)) ok0) ak0) ?_
   refine Zd (Zt (ZqF (Zk (Zt (Zs ?_)))))
   refine Zqt (.rd 0 (.rd 1 (.rd 2 .done))) ?_
   refine Zr 0 1 [] ?_
   refine GoR.bytesStrG rfl (by kernel_rfl) (src:=39) (dst:=9) (e:=5) (ad:=az4) (n:=((rr2.take nn1).length)) (cap:=cz5) (f:=byteC) rfl (rr2.take nn1) rfl (by kernel_rfl) (by kernel_rfl) (by kernel_rfl) (by kernel_rfl) (fun z hz=>CutOK.byt (by assumption) z (List.mem_of_mem_take hz)) (RowsAt.takeL (hq28.row _ (hQ _ (hs29.drop 1))) _ (by omega)) ?_
   refine Zr 2 1 [] ?_
   refine Zd (Zt (Ze ?_))
   refine Zq1 (v:=.string (strOf (rr2.take nn1))) ?_
   exact⟨strOf (rr2.take nn1),(rr2.drop nn1),false,subAd az4 cz5 nn1 1,cz5-nn1,rfl,(textP_ok (hsf27▸he6) (by rw [hsf27] at h15;simp at h15;omega) hnr28),(CutOK.drop (by assumption) hnr28),hs29⟩
  ·refine⟨Zqo,?_⟩
   refine Zr 3 1 [] ?_
   refine Zd (Zt (Zs (Zs ?_)))
   refine Zqt (.rd 0 (.rd 1 (.rd 2 (.rd 3 .done)))) ?_
   refine Zp 0 4 [(3,.gen [.bool true])] [(3,[.cell ⟨c,1,none⟩ (.bool true)])] (ak (okc (hs31.cell 0 rfl (by kernel_rfl)) ok0) ak0) ?_
   refine Zd (Zt (ZqT (Zs ?_)))
   refine Zqt (.rd 0 (.rd 1 (.rd 2 (.rd 3 (.ef 4 .done))))) ?_
   refine Zr 0 4 [] ?_
   refine Zw (b:=c) (off:=0) (v:=.slice az r.length cz) (ti:=Tryz.t39) (by kernel_rfl) hs31 0 (L':=(Cel c #[.slice az r.length cz,.bool true] 124)::L) ?_
   intro w34 hs35
   refine⟨Zqo,?_⟩
   refine Zd (Zt (Zs ?_))
   refine Zqt (.rd 0 .done) ?_
   refine Zr 0 1 [] ?_
   refine Zd (Zt (Ze (Zy ?_)))
   refine Zq1 (v:=.string (⟨#[]⟩:ByteArray)) ?_
   exact⟨⟨#[]⟩,r,true,az,cz,rfl,(textP_bad he6 (hbad30.elim (fun h=>.inl (by rw [h];rfl)) .inr)),hq,hs35⟩
theorem cutRaw_spec {w0 w:World}{L:List Asn}{c:Nat}{az:Option Addr}{cz:Nat}(Q:Asn) (r:List Int) (sp:Bool) (n:Nat) (hQ:∀ w,St w0 L w→Q.holds w) (hq:CutOK Q az r cz) (hs:St w0 ((Cel c #[.slice az r.length cz,.bool sp] 124)::L) w):Calls Tryz.prog 33 #[zP c 0,.int .i64 (n:Nat)] w (Ret fun rv w'=>∃ (ao2:Option Addr) (co2:Nat) (ll2:List Int) (rr2:List Int) (sp2:Bool) (az2:Option Addr) (cz2:Nat),rv=.slice ao2 ll2.length co2∧tk n (r,sp)=(ll2,(rr2,sp2))∧CutOK Q az2 rr2 cz2∧St w0 ((Sl ao2 co2 5 1 byteC ll2)::(Cel c #[.slice az2 rr2.length cz2,.bool sp2] 124)::L) w'):=by
 refine Zen (args:=[zP c 0,.int .i64 (n:Nat)]) Tryz.func33 Tryz.ntmps33 ?_
 refine Zn [(0,zP c 0),(1,.int .i64 (n:Nat))] ?_
 refine Zs ?_
 refine Zqt (.rd 0 .done) ?_
 refine Zr 0 1 [] ?_
 refine Zd (Zt (Zs ?_))
 refine Zqt (.rd 0 (.rd 1 (.ef 2 (.ef 3 (.rd 4 .done))))) ?_
 refine Zr 0 2 [] ?_
 refine Zqa (f:=55) (args:=#[zP c 0,.int .i64 (n:Nat)]) Tryz.call55 (take_spec Q r sp n (fun w h=>hQ w (h.drop 0)) hq hs) ?_
 rintro v6 w7 (⟨rfl,hsf1,hnr2,hs3⟩|⟨rfl,hbad4,hs5⟩)
 ·refine⟨Zqo,?_⟩
  refine Zqa (f:=54) (args:=#[.slice az ((r.take n).length) cz]) Tryz.call54 (cloneV_spec (r.take n) (by have:=hq.len;rw [List.length_take];omega) hq.som (fun w h=>RowsAt.takeL (hq.row w (hQ w (h.drop 1))) _ (by omega)) hs3) ?_
  rintro v11 w12 ⟨ao8,co9,rfl,hs10⟩
  refine⟨Zqo,?_⟩
  refine Zr 4 1 [] ?_
  refine Zd (Zt (Ze ?_))
  refine Zq1 (v:=.slice ao8 ((r.take n).length) co9) ?_
  exact⟨ao8,co9,(r.take n),(r.drop n),false,subAd az cz n 1,cz-n,rfl,(tk_ok hsf1 hnr2),(hq.drop hnr2),hs10⟩
 ·refine⟨Zqo,?_⟩
  refine Zqa (f:=54) (args:=#[.slice none 0 0]) Tryz.call54 (cloneN_spec hs5) ?_
  rintro v14 w15 ⟨rfl,hs13⟩
  refine⟨Zqo,?_⟩
  refine Zr 4 1 [] ?_
  refine Zd (Zt (Ze ?_))
  refine Zq1 (v:=.slice none 0 0) ?_
  have hs16:St w0 ((Sl none 0 5 1 byteC ([]:List Int))::(Cel c #[.slice az r.length cz,.bool true] 124)::L) w15:=St.slNil hs13 5 1 byteC
  exact⟨none,0,([]:List Int),r,true,az,cz,rfl,(tk_bad hbad4),hq,hs16⟩
theorem cutNew_spec {w0 w:World}{L:List Asn}{ad:Option Addr}{ca:Nat}(F:List Int) (hFl:F.length≤1000000000) (hsm:Som ad ca) (hr:∀ w,St w0 L w→RowsAt w ad F.length 1 (fun k=>byteC (F.getD k (0:Int)))) (hs:St w0 (L) w):Calls Tryz.prog 29 #[.slice ad F.length ca] w (Ret fun rv w'=>∃ (cc:Nat) (ao:Option Addr) (co:Nat),rv=zP cc 0∧St w0 ((Cel cc #[.slice ao F.length co,.bool false] 124)::(Sl ao co 5 1 byteC F)::L) w'):=by
 refine Zen (args:=[.slice ad F.length ca]) Tryz.func29 Tryz.ntmps29 ?_
 refine Zn [(0,.slice ad F.length ca)] ?_
 refine Zs ?_
 refine Zqt (.rd 0 .done) ?_
 refine Zr 0 1 [] ?_
 refine Zd (Zt (Zs ?_))
 refine Zqt (.rd 0 (.ef 1 (.rd 2 (.ef 3 (.rd 4 .done))))) ?_
 refine Zr 0 1 [] ?_
 refine Zqa (f:=54) (args:=#[.slice ad F.length ca]) Tryz.call54 (cloneV_spec F (by first|assumption|omega) (by first|assumption|omega) (fun w h=>hr _ (h.drop 0)) hs) ?_
 rintro v4 w5 ⟨ao1,co2,rfl,hs3⟩
 refine⟨Zqo,?_⟩
 refine Zr 2 1 [] ?_
 refine GoR.box rfl rfl (by kernel_rfl) (v:=.agg #[.slice ao1 F.length co2,.bool false]) (by kernel_rfl) hs3 (cs:=#[.slice ao1 F.length co2,.bool false]) (by kernel_rfl) ?_
 intro b6 w7 hs8
 refine⟨Zqo,?_⟩
 refine Zr 4 1 [] ?_
 refine Zd (Zt (Ze ?_))
 refine Zq1 (v:=zP b6 0) ?_
 exact⟨b6,ao1,co2,rfl,hs8⟩
theorem CutOK.new {w0 w:World}{L:List Asn}{ao:Option Addr}{co j:Nat}{F:List Int}(hs:St w0 L w) (hj:L[j]?=some (Sl ao co 5 1 byteC F)) (hb:∀ z∈F,0≤z∧z<256) (hl:F.length≤1000000):CutOK (Sl ao co 5 1 byteC F) ao F co :=
 ⟨Sl.cap (hs.at_ j hj),own_som hs j hj,fun w h=>Sl.rows byteF.size h (0:Int),hb,hl⟩
theorem strOf_inj {x y:List Int}(hx:∀ z∈x,0≤z∧z<256) (hy:∀ z∈y,0≤z∧z<256) (h:strOf x=strOf y):x=y:=by
 have h1:=congrArg strB h
 rw [strB_strOf hx,strB_strOf hy] at h1
 exact h1
theorem strOf_dec {x y:List Int}(hx:∀ z∈x,0≤z∧z<256) (hy:∀ z∈y,0≤z∧z<256):decide (strOf x=strOf y)=decide (x=y):=by
 by_cases h:x=y
 ·subst h;simp
 ·rw [decide_eq_false h,decide_eq_false fun h2=>h (strOf_inj hx hy h2)]
theorem bytesEq_spec {w0 w:World}{L:List Asn}{ax:Option Addr}{cx:Nat}{ay:Option Addr}{cy:Nat}(x:List Int) (y:List Int) (hbx:∀ z∈x,0≤z∧z<256) (hby:∀ z∈y,0≤z∧z<256) (hr1:∀ w,St w0 L w→RowsAt w ax x.length 1 (fun k=>byteC (x.getD k (0:Int)))) (hr2:∀ w,St w0 L w→RowsAt w ay y.length 1 (fun k=>byteC (y.getD k (0:Int)))) (hs:St w0 (L) w):Calls Tryz.prog 38 #[.slice ax x.length cx,.slice ay y.length cy] w (Ret fun rv w'=>rv=.bool (decide (x=y))∧St w0 (L) w'):=by
 refine Zen (args:=[.slice ax x.length cx,.slice ay y.length cy]) Tryz.func38 Tryz.ntmps38 ?_
 refine Zn [(0,.slice ax x.length cx),(1,.slice ay y.length cy)] ?_
 refine Zs ?_
 refine Zqt (.rd 0 .done) ?_
 refine Zr 0 1 [] ?_
 refine Zd (Zt (Zs ?_))
 refine Zqt (.rd 0 (.rd 1 (.rd 2 (.rd 3 (.rd 4 (.rd 5 .done)))))) ?_
 refine Zr 0 1 [] ?_
 refine GoR.bytesStrG rfl (by kernel_rfl) (src:=39) (dst:=9) (e:=5) (ad:=ax) (n:=x.length) (cap:=cx) (f:=byteC) rfl x rfl (by kernel_rfl) (by kernel_rfl) (by kernel_rfl) (by kernel_rfl) hbx (hr1 _ (hs.drop 0)) ?_
 refine Zr 2 1 [] ?_
 refine GoR.bytesStrG rfl (by kernel_rfl) (src:=39) (dst:=9) (e:=5) (ad:=ay) (n:=y.length) (cap:=cy) (f:=byteC) rfl y rfl (by kernel_rfl) (by kernel_rfl) (by kernel_rfl) (by kernel_rfl) hby (hr2 _ (hs.drop 0)) ?_
 refine Zp 4 2 [(4,.as_ (.bool (decide ((strOf x)=(strOf y)))) (.gen []))] [(4,[.prop (Value.bool ((strOf x).toList == (strOf y).toList)=Value.bool (decide ((strOf x)=(strOf y))))])] (ak (okp (seq _ _) ok0) ak0) ?_
 refine Zd (Zt (Ze ?_))
 refine Zq1 (v:=.bool (decide ((strOf x)=(strOf y)))) ?_
 exact⟨(by rw [strOf_dec hbx hby]),hs⟩
def hashP (s:CS):D32×CS:=(vecL (tk 32 s).1,(tk 32 s).2)
theorem tk_len (n:Nat) (s:CS):(tk n s).1.length≤n:=by
 unfold tk
 split
 ·exact Nat.zero_le _
 ·rw [List.length_take];omega
theorem tk_byt {n:Nat}{s:CS}(h:∀ z∈s.1,0≤z∧z<256):∀ z∈(tk n s).1,0≤z∧z<256:=by
 unfold tk
 split
 ·intro z hz;cases hz
 ·exact fun z hz=>h z (List.mem_of_mem_take hz)
theorem vecLay {l:List Int}(h:l.length≤32):arrCells byteC (layL (List.replicate 32 (0:Int)) 0 (l.take (min l.length 32)))=D32.cells (vecL l):=by
 have e1:l.take (min l.length 32)=l:=List.take_of_length_le (by omega)
 have e2:layL (List.replicate 32 (0:Int)) 0 l=(l++List.replicate 32 0).take 32:=by
  show List.take 0 _++l++List.drop (0+l.length) _=_
  rw [List.take_zero,List.nil_append,List.drop_replicate,List.take_append,List.take_of_length_le h,List.take_replicate]
  congr 2
  omega
 rw [e1,e2,D32.eqm,byte_flat]
 apply Array.ext'
 show((l++List.replicate 32 0).take 32).map (Value.int .u8)=(((l++List.replicate 32 0).take 32).toArray.map (Value.int .u8)).toList
 simp
theorem lay32 (l:List Int):(layL (List.replicate 32 (0:Int)) 0 (l.take (min l.length 32))).length=32:=by rw [layL_length (by simp only [List.length_take,List.length_replicate];omega),List.length_replicate]
theorem vecL_byt {l:List Int}(h:∀ z∈l,0≤z∧z<256):∀ z∈(vecL l).toList,0≤z∧z<256:=by
 intro z hz
 have e:(vecL l).toList=(l++List.replicate 32 0).take 32:=by
  show(((l++List.replicate 32 0).take 32).toArray).toList=_
  simp
 rw [e] at hz
 rcases List.mem_append.1 (List.mem_of_mem_take hz) with h1|h1
 ·exact h z h1
 ·rw [List.eq_of_mem_replicate h1];omega
theorem hash_spec {w0 w:World}{L:List Asn}{c:Nat}{az:Option Addr}{cz:Nat}(Q:Asn) (r:List Int) (sp:Bool) (hQ:∀ w,St w0 L w→Q.holds w) (hq:CutOK Q az r cz) (hs:St w0 ((Cel c #[.slice az r.length cz,.bool sp] 124)::L) w):Calls Tryz.prog 72 #[zP c 0] w (Ret fun rv w'=>∃ (dd2:D32) (rr2:List Int) (sp2:Bool) (az2:Option Addr) (cz2:Nat),rv=.agg (D32.cells dd2)∧hashP (r,sp)=(dd2,(rr2,sp2))∧(∀ z∈dd2.toList,0≤z∧z<256)∧CutOK Q az2 rr2 cz2∧St w0 ((Cel c #[.slice az2 rr2.length cz2,.bool sp2] 124)::L) w'):=by
 refine Zen (args:=[zP c 0]) Tryz.func72 Tryz.ntmps72 ?_
 refine Zn [(0,zP c 0)] ?_
 refine Zs ?_
 refine Zqt (.ef 0 .done) ?_
 refine GoR.alloc rfl rfl (by kernel_rfl) (z:=.agg (arrCells byteC (List.replicate 32 (0:Int)))) (by kernel_rfl) hs (cs:=(arrCells byteC (List.replicate 32 (0:Int)))) (by kernel_rfl) ?_
 intro b1 w2 hs3
 refine⟨Zqo,?_⟩
 refine Zd (Zt (Zs ?_))
 refine GoC.regD [0,0,2,7] (.rd 0 (.rd 1 (.ef 2 (.ef 3 .done)))) (by kernel_rfl) (by kernel_rfl) noPan_body (by kernel_rfl) hs3 ?_
 intro w4 hs5 hw6
 refine Zp 0 2 [(0,.as_ (zL b1 0 32 32) (.sub 0 32))] [(0,[.prop ((((none:Option Operand))=none→(0:Nat)=0)∧(((none:Option Operand))=none→(32:Nat)=32)∧(0:Nat)≤32∧(32:Nat)≤32),.prop (Value.slice (some (if 32=0 then Addr.mk b1 0 none else (Addr.mk b1 0 none).add (0*1))) (32-0) (32-0)=Value.slice (some ⟨b1,0,none⟩) 32 32)])] (ak (okp ⟨(by first|(intro _;rfl)|(intro hc;cases hc)),(by first|(intro _;rfl)|(intro hc;cases hc)),(by omega),(by omega)⟩ (okp (subArr0 _ _ _ _ _ (by decide)) ok0)) ak0) ?_
 have hs7:St w0 ((Cel c #[.slice az r.length cz,.bool sp] 124)::(Cel b1 (arrCells byteC (List.replicate 32 (0:Int))) 25)::L) w4:=(hs5.pull 1 rfl)
 refine Zqa (f:=33) (args:=#[zP c 0,.int .i64 (32:Nat)]) Tryz.call33 (cutRaw_spec Q r sp 32 (fun w h=>hQ w (h.drop 1)) hq hs7) ?_
 rintro v18 w19 ⟨ao8,co9,ll10,rr11,sp12,az13,cz14,rfl,he15,hq216,hs17⟩
 refine⟨(opl (n:=[.prop ((((none:Option Operand))=none→(0:Nat)=0)∧(((none:Option Operand))=none→(32:Nat)=32)∧(0:Nat)≤32∧(32:Nat)≤32),.prop (Value.slice (some (if 32=0 then Addr.mk b1 0 none else (Addr.mk b1 0 none).add (0*1))) (32-0) (32-0)=Value.slice (some ⟨b1,0,none⟩) 32 32)]) (by kernel_rfl) (okp ⟨(by first|(intro _;rfl)|(intro hc;cases hc)),(by first|(intro _;rfl)|(intro hc;cases hc)),(by omega),(by omega)⟩ (okp (subArr0 _ _ _ _ _ (by decide)) ok0))),?_⟩
 have hs22:St w0 ((Cel b1 (arrCells byteC (List.replicate 32 (0:Int))) 25)::(Sl ao8 co9 5 1 byteC ll10)::(Cel c #[.slice az13 rr11.length cz14,.bool sp12] 124)::L) w19:=(hs17.pull 2 rfl)
 refine GoR.copyN rfl (by kernel_rfl) bytesOK byteF (b:=b1) (off:=0) (dLen:=32) (dCap:=32) (ys:=ll10) (adx:=ao8) (cx:=co9) (0:Int) rfl (by kernel_rfl) hs22 (hs22.rows 1 rfl (byteF).size (0:Int)) (by rw [arr_size byteF.size];simp only [List.length_replicate,Nat.zero_add];exact Nat.mul_le_mul_right _ (by omega)) (cs':=arrCells byteC (layL (List.replicate 32 (0:Int)) 0 ((ll10).take (min (ll10).length 32)))) (by show splice _ (0*1) _=_;exact put_rows byteF.size (by simp only [List.length_take,List.length_replicate];omega)) ?_
 intro w23 hs24
 refine⟨Zqo,?_⟩
 refine Zd (Zt (Zs ?_))
 refine Zqt (.rd 0 (.ef 1 .done)) ?_
 refine Zp 0 1 [(0,.agg (arrCells byteC (layL (List.replicate 32 (0:Int)) 0 ((ll10).take (min (ll10).length 32)))))] [(0,[.prop (Array.size ((arrCells byteC (layL (List.replicate 32 (0:Int)) 0 ((ll10).take (min (ll10).length 32)))))=32),.cells ⟨b1,0,none⟩ (arrCells byteC (layL (List.replicate 32 (0:Int)) 0 ((ll10).take (min (ll10).length 32))))])] (ak (okp (arrvSize byteF (show(layL (List.replicate 32 (0:Int)) 0 ((ll10).take (min (ll10).length 32))).length=32 from(lay32 _)) rfl) (oka (hs24.cells 0 0 rfl (by simp)) ok0)) ak0) ?_
 refine GoR.store rfl rfl (by kernel_rfl) (b:=b1) (off:=0) (v:=.agg (arrCells byteC (layL (List.replicate 32 (0:Int)) 0 ((ll10).take (min (ll10).length 32))))) (by kernel_rfl) (by kernel_rfl) (ti:=Tryz.t25) (by kernel_rfl) hs24 0 rfl (arrvCells byteF (show(layL (List.replicate 32 (0:Int)) 0 ((ll10).take (min (ll10).length 32))).length=32 from(lay32 _)) (by kernel_rfl)) (arrvOne byteF) (arrvRoom byteF (show(layL (List.replicate 32 (0:Int)) 0 ((ll10).take (min (ll10).length 32))).length=32 from(lay32 _)) (by rw [arrvSize byteF (show(layL (List.replicate 32 (0:Int)) 0 ((ll10).take (min (ll10).length 32))).length=32 from(lay32 _)) (m:=32) rfl];rfl)) (cs':=arrCells byteC (layL (List.replicate 32 (0:Int)) 0 ((ll10).take (min (ll10).length 32)))) (L':=(Cel b1 (arrCells byteC (layL (List.replicate 32 (0:Int)) 0 ((ll10).take (min (ll10).length 32)))) 25)::(Sl ao8 co9 5 1 byteC ll10)::(Cel c #[.slice az13 rr11.length cz14,.bool sp12] 124)::L) (arrvPut byteF (show(layL (List.replicate 32 (0:Int)) 0 ((ll10).take (min (ll10).length 32))).length=32 from(lay32 _)) (by rw [arrvSize byteF (show(layL (List.replicate 32 (0:Int)) 0 ((ll10).take (min (ll10).length 32))).length=32 from(lay32 _)) (m:=32) rfl];rfl)) rfl ?_
 intro w25 hs26
 refine⟨Zqo,?_⟩
 refine Zd (Zt (Ze ?_))
 refine GoQ.done (.inl rfl) (v:=.agg (arrCells byteC (layL (List.replicate 32 (0:Int)) 0 ((ll10).take (min (ll10).length 32))))) (fun a hf=>resultsA rfl (by kernel_rfl) (ti:=Tryz.t25) (by kernel_rfl) (by kernel_rfl) (vs:=(arrCells byteC (layL (List.replicate 32 (0:Int)) 0 ((ll10).take (min (ll10).length 32))))) (arrvSize byteF (show(layL (List.replicate 32 (0:Int)) 0 ((ll10).take (min (ll10).length 32))).length=32 from(lay32 _)) (by kernel_rfl)) (hs26.cells 0 0 rfl (by simp)) a hf) ?_
 have h6:=tk_byt (n:=32) (s:=(r,sp)) hq.byt
 rw [he15] at h6
 have h9:hashP (r,sp)=(vecL ll10,(rr11,sp12)):=by unfold hashP;rw [he15]
 have h8:(ll10).length≤32:=by have h7:=tk_len 32 (r,sp);rw [he15] at h7;exact h7
 have hs27:St w0 ((Cel c #[.slice az13 rr11.length cz14,.bool sp12] 124)::L) w25:=hs26.drop 2
 exact⟨(vecL ll10),rr11,sp12,az13,cz14,(congrArg Value.agg (vecLay h8)),h9,(vecL_byt h6),hq216,hs27⟩
def rqP (s:CS):TRq×CS :=
 let a:=byteP s
 let b:=byteP a.2
 let c:=wordP b.2
 let d:=wordP c.2
 let e:=textP 32 d.2
 let f:=textP 128 e.2
 let g:=textP 128 f.2
 let h:=textP 32 g.2
 let i:=hashP h.2
 (⟨a.1,c.1,⟨b.1,e.1,f.1,g.1,h.1,d.1⟩,i.1⟩,i.2)
structure RqOK (r:TRq):Prop where
 cl:-9223372036854775808≤r.cl∧r.cl≤9223372036854775807
 tm:0≤r.tm∧r.tm≤18446744073709551615
 kd:0≤r.op.kd∧r.op.kd≤255
 am:0≤r.op.am∧r.op.am≤18446744073709551615
 tg:∀ z∈r.tg.toList,0≤z∧z<256
theorem getRequest_spec {w0 w:World}{L:List Asn}{c:Nat}{az:Option Addr}{cz:Nat}(Q:Asn) (r:List Int) (sp:Bool) (hQ:∀ w,St w0 L w→Q.holds w) (hq:CutOK Q az r cz) (hs:St w0 ((Cel c #[.slice az r.length cz,.bool sp] 124)::L) w):Calls Tryz.prog 90 #[zP c 0] w (Ret fun rv w'=>∃ (xq2:TRq) (rr2:List Int) (sp2:Bool) (az2:Option Addr) (cz2:Nat),rv=.agg (TRq.cells xq2)∧rqP (r,sp)=(xq2,(rr2,sp2))∧RqOK xq2∧CutOK Q az2 rr2 cz2∧St w0 ((Cel c #[.slice az2 rr2.length cz2,.bool sp2] 124)::L) w'):=by
 refine Zen (args:=[zP c 0]) Tryz.func90 Tryz.ntmps90 ?_
 refine Zn [(0,zP c 0)] ?_
 refine Zs ?_
 refine Zqt (.ef 0 .done) ?_
 refine GoR.alloc rfl rfl (by kernel_rfl) (z:=.agg (TRq.cells dRq)) (by kernel_rfl) hs (cs:=TRq.cells dRq) (by kernel_rfl) ?_
 intro b1 w2 hs3
 refine⟨Zqo,?_⟩
 refine Zd (Zt (Zs ?_))
 refine Zqt (.rd 0 (.ef 1 (.rd 2 (.rd 3 (.ef 4 (.rd 5 (.ef 6 (.rd 7 (.rd 8 (.ef 9 .done)))))))))) ?_
 refine Zr 0 1 [] ?_
 have hs4:St w0 ((Cel c #[.slice az r.length cz,.bool sp] 124)::(Cel b1 (TRq.cells dRq) 27)::L) w2:=(hs3.pull 1 rfl)
 refine Zqa (f:=30) (args:=#[zP c 0]) Tryz.call30 (cutByte_spec Q r sp (fun w h=>hQ w (h.drop 1)) hq hs4) ?_
 rintro v14 w15 ⟨vv5,rr6,sp7,az8,cz9,rfl,he10,hby11,hq212,hs13⟩
 refine⟨Zqo,?_⟩
 refine Zp 2 2 [(2,.as_ (.int .i64 vv5) (.gen []))] [(2,[.prop (Value.int .i64 (IntKind.i64.wrap vv5)=Value.int .i64 vv5)])] (ak (okp (i64ok (by omega) (by omega)) ok0) ak0) ?_
 refine Zqa (f:=30) (args:=#[zP c 0]) Tryz.call30 (cutByte_spec Q rr6 sp7 (fun w h=>hQ w (h.drop 1)) hq212 hs13) ?_
 rintro v25 w26 ⟨vv16,rr17,sp18,az19,cz20,rfl,he21,hby22,hq223,hs24⟩
 refine⟨Zqo,?_⟩
 refine Zr 5 1 [] ?_
 refine Zw (b:=b1) (off:=0) (v:=.int .i64 vv5) (ti:=Tryz.t3) (by kernel_rfl) hs24 1 (L':=(Cel c #[.slice az19 rr17.length cz20,.bool sp18] 124)::(Cel b1 (TRq.cells (⟨vv5,0,dOp,dD32⟩:TRq)) 27)::L) ?_
 intro w27 hs28
 refine⟨Zqo,?_⟩
 refine Zr 7 2 [] ?_
 refine Zw (b:=b1) (off:=2) (v:=.int .u8 vv16) (ti:=Tryz.t5) (by kernel_rfl) hs28 1 (L':=(Cel c #[.slice az19 rr17.length cz20,.bool sp18] 124)::(Cel b1 (TRq.cells (⟨vv5,0,(⟨vv16,(⟨#[]⟩:ByteArray),(⟨#[]⟩:ByteArray),(⟨#[]⟩:ByteArray),(⟨#[]⟩:ByteArray),0⟩:TOp),dD32⟩:TRq)) 27)::L) ?_
 intro w29 hs30
 refine⟨Zqo,?_⟩
 refine Zd (Zt (Zs ?_))
 refine Zqt (.rd 0 (.ef 1 (.rd 2 (.ef 3 (.rd 4 (.ef 5 (.rd 6 (.rd 7 (.ef 8 .done))))))))) ?_
 refine Zr 0 1 [] ?_
 refine Zqa (f:=31) (args:=#[zP c 0]) Tryz.call31 (cutWord_spec Q rr17 sp18 (fun w h=>hQ w (h.drop 1)) hq223 hs30) ?_
 rintro v40 w41 ⟨vv31,rr32,sp33,az34,cz35,rfl,he36,hwr37,hq238,hs39⟩
 refine⟨Zqo,?_⟩
 refine Zr 2 1 [] ?_
 refine Zqa (f:=31) (args:=#[zP c 0]) Tryz.call31 (cutWord_spec Q rr32 sp33 (fun w h=>hQ w (h.drop 1)) hq238 hs39) ?_
 rintro v51 w52 ⟨vv42,rr43,sp44,az45,cz46,rfl,he47,hwr48,hq249,hs50⟩
 refine⟨Zqo,?_⟩
 refine Zr 4 1 [] ?_
 refine Zw (b:=b1) (off:=1) (v:=.int .u64 vv31) (ti:=Tryz.t22) (by kernel_rfl) hs50 1 (L':=(Cel c #[.slice az45 rr43.length cz46,.bool sp44] 124)::(Cel b1 (TRq.cells (⟨vv5,vv31,(⟨vv16,(⟨#[]⟩:ByteArray),(⟨#[]⟩:ByteArray),(⟨#[]⟩:ByteArray),(⟨#[]⟩:ByteArray),0⟩:TOp),dD32⟩:TRq)) 27)::L) ?_
 intro w53 hs54
 refine⟨Zqo,?_⟩
 refine Zr 6 2 [] ?_
 refine Zw (b:=b1) (off:=7) (v:=.int .u64 vv42) (ti:=Tryz.t22) (by kernel_rfl) hs54 1 (L':=(Cel c #[.slice az45 rr43.length cz46,.bool sp44] 124)::(Cel b1 (TRq.cells (⟨vv5,vv31,(⟨vv16,(⟨#[]⟩:ByteArray),(⟨#[]⟩:ByteArray),(⟨#[]⟩:ByteArray),(⟨#[]⟩:ByteArray),vv42⟩:TOp),dD32⟩:TRq)) 27)::L) ?_
 intro w55 hs56
 refine⟨Zqo,?_⟩
 refine Zd (Zt (Zs ?_))
 refine Zqt (.rd 0 (.ef 1 (.rd 2 (.ef 3 (.rd 4 (.rd 5 (.ef 6 (.rd 7 (.rd 8 (.ef 9 .done)))))))))) ?_
 refine Zr 0 1 [] ?_
 refine Zqa (f:=32) (args:=#[zP c 0,.int .i64 32]) Tryz.call32 (cutText_spec Q rr43 sp44 32 (fun w h=>hQ w (h.drop 1)) hq249 hs56) ?_
 rintro v65 w66 ⟨ss57,rr58,sp59,az60,cz61,rfl,he62,hq263,hs64⟩
 refine⟨Zqo,?_⟩
 refine Zr 2 1 [] ?_
 refine Zqa (f:=32) (args:=#[zP c 0,.int .i64 128]) Tryz.call32 (cutText_spec Q rr58 sp59 128 (fun w h=>hQ w (h.drop 1)) hq263 hs64) ?_
 rintro v75 w76 ⟨ss67,rr68,sp69,az70,cz71,rfl,he72,hq273,hs74⟩
 refine⟨Zqo,?_⟩
 refine Zr 4 2 [] ?_
 refine Zw (b:=b1) (off:=3) (v:=.string ss57) (ti:=Tryz.t9) (by kernel_rfl) hs74 1 (L':=(Cel c #[.slice az70 rr68.length cz71,.bool sp69] 124)::(Cel b1 (TRq.cells (⟨vv5,vv31,(⟨vv16,ss57,(⟨#[]⟩:ByteArray),(⟨#[]⟩:ByteArray),(⟨#[]⟩:ByteArray),vv42⟩:TOp),dD32⟩:TRq)) 27)::L) ?_
 intro w77 hs78
 refine⟨Zqo,?_⟩
 refine Zr 7 2 [] ?_
 refine Zw (b:=b1) (off:=4) (v:=.string ss67) (ti:=Tryz.t9) (by kernel_rfl) hs78 1 (L':=(Cel c #[.slice az70 rr68.length cz71,.bool sp69] 124)::(Cel b1 (TRq.cells (⟨vv5,vv31,(⟨vv16,ss57,ss67,(⟨#[]⟩:ByteArray),(⟨#[]⟩:ByteArray),vv42⟩:TOp),dD32⟩:TRq)) 27)::L) ?_
 intro w79 hs80
 refine⟨Zqo,?_⟩
 refine Zd (Zt (Zs ?_))
 refine Zqt (.rd 0 (.ef 1 (.rd 2 (.ef 3 (.rd 4 (.rd 5 (.ef 6 (.rd 7 (.rd 8 (.ef 9 .done)))))))))) ?_
 refine Zr 0 1 [] ?_
 refine Zqa (f:=32) (args:=#[zP c 0,.int .i64 128]) Tryz.call32 (cutText_spec Q rr68 sp69 128 (fun w h=>hQ w (h.drop 1)) hq273 hs80) ?_
 rintro v89 w90 ⟨ss81,rr82,sp83,az84,cz85,rfl,he86,hq287,hs88⟩
 refine⟨Zqo,?_⟩
 refine Zr 2 1 [] ?_
 refine Zqa (f:=32) (args:=#[zP c 0,.int .i64 32]) Tryz.call32 (cutText_spec Q rr82 sp83 32 (fun w h=>hQ w (h.drop 1)) hq287 hs88) ?_
 rintro v99 w100 ⟨ss91,rr92,sp93,az94,cz95,rfl,he96,hq297,hs98⟩
 refine⟨Zqo,?_⟩
 refine Zr 4 2 [] ?_
 refine Zw (b:=b1) (off:=5) (v:=.string ss81) (ti:=Tryz.t9) (by kernel_rfl) hs98 1 (L':=(Cel c #[.slice az94 rr92.length cz95,.bool sp93] 124)::(Cel b1 (TRq.cells (⟨vv5,vv31,(⟨vv16,ss57,ss67,ss81,(⟨#[]⟩:ByteArray),vv42⟩:TOp),dD32⟩:TRq)) 27)::L) ?_
 intro w101 hs102
 refine⟨Zqo,?_⟩
 refine Zr 7 2 [] ?_
 refine Zw (b:=b1) (off:=6) (v:=.string ss91) (ti:=Tryz.t9) (by kernel_rfl) hs102 1 (L':=(Cel c #[.slice az94 rr92.length cz95,.bool sp93] 124)::(Cel b1 (TRq.cells (⟨vv5,vv31,(⟨vv16,ss57,ss67,ss81,ss91,vv42⟩:TOp),dD32⟩:TRq)) 27)::L) ?_
 intro w103 hs104
 refine⟨Zqo,?_⟩
 refine Zd (Zt (Zs ?_))
 refine Zqt (.rd 0 (.ef 1 (.rd 2 (.ef 3 .done)))) ?_
 refine Zr 0 1 [] ?_
 refine Zqa (f:=72) (args:=#[zP c 0]) Tryz.call72 (hash_spec Q rr92 sp93 (fun w h=>hQ w (h.drop 1)) hq297 hs104) ?_
 rintro v114 w115 ⟨dd105,rr106,sp107,az108,cz109,rfl,he110,hdb111,hq2112,hs113⟩
 refine⟨Zqo,?_⟩
 refine Zr 2 1 [] ?_
 refine Zw (b:=b1) (off:=8) (v:=.agg (D32.cells dd105)) (ti:=Tryz.t25) (by kernel_rfl) hs113 1 (L':=(Cel c #[.slice az108 rr106.length cz109,.bool sp107] 124)::(Cel b1 (TRq.cells (⟨vv5,vv31,(⟨vv16,ss57,ss67,ss81,ss91,vv42⟩:TOp),dd105⟩:TRq)) 27)::L) ?_
 intro w116 hs117
 refine⟨Zqo,?_⟩
 refine Zd (Zt (Zs ?_))
 refine Zqt (.rd 0 (.ef 1 .done)) ?_
 refine Zp 0 1 [(0,.agg (TRq.cells (⟨vv5,vv31,(⟨vv16,ss57,ss67,ss81,ss91,vv42⟩:TOp),dd105⟩:TRq)))] [(0,[.prop (Array.size (TRq.cells (⟨vv5,vv31,(⟨vv16,ss57,ss67,ss81,ss91,vv42⟩:TOp),dd105⟩:TRq))=40),.cells ⟨b1,0,none⟩ (TRq.cells (⟨vv5,vv31,(⟨vv16,ss57,ss67,ss81,ss91,vv42⟩:TOp),dd105⟩:TRq))])] (ak (okp (by kernel_rfl) (oka (hs117.cells 1 0 rfl (by kernel_rfl)) ok0)) ak0) ?_
 refine Zw (b:=b1) (off:=0) (v:=.agg (TRq.cells (⟨vv5,vv31,(⟨vv16,ss57,ss67,ss81,ss91,vv42⟩:TOp),dd105⟩:TRq))) (ti:=Tryz.t27) (by kernel_rfl) hs117 1 (L':=(Cel c #[.slice az108 rr106.length cz109,.bool sp107] 124)::(Cel b1 (TRq.cells (⟨vv5,vv31,(⟨vv16,ss57,ss67,ss81,ss91,vv42⟩:TOp),dd105⟩:TRq)) 27)::L) ?_
 intro w118 hs119
 refine⟨Zqo,?_⟩
 refine Zd (Zt (Ze ?_))
 refine GoQ.done (.inl rfl) (v:=.agg (TRq.cells (⟨vv5,vv31,(⟨vv16,ss57,ss67,ss81,ss91,vv42⟩:TOp),dd105⟩:TRq))) (fun a hf=>resultsA rfl (by kernel_rfl) (ti:=Tryz.t27) (by kernel_rfl) (by kernel_rfl) (vs:=(TRq.cells (⟨vv5,vv31,(⟨vv16,ss57,ss67,ss81,ss91,vv42⟩:TOp),dd105⟩:TRq))) (by kernel_rfl) (hs119.cells 1 0 rfl (by kernel_rfl)) a hf) ?_
 have hs120:St w0 ((Cel b1 (TRq.cells (⟨vv5,vv31,(⟨vv16,ss57,ss67,ss81,ss91,vv42⟩:TOp),dd105⟩:TRq)) 27)::(Cel c #[.slice az108 rr106.length cz109,.bool sp107] 124)::L) w118:=((hs119.pull 0 rfl).pull 1 rfl)
 have hs121:St w0 ((Cel c #[.slice az108 rr106.length cz109,.bool sp107] 124)::L) w118:=hs120.drop 1
 exact⟨(⟨vv5,vv31,(⟨vv16,ss57,ss67,ss81,ss91,vv42⟩:TOp),dd105⟩:TRq),rr106,sp107,az108,cz109,rfl,(by unfold rqP;simp only [he10,he21,he36,he47,he62,he72,he86,he96,he110]),⟨(by dsimp only;omega),(by dsimp only;omega),(by dsimp only;omega),(by dsimp only;omega),hdb111⟩,hq2112,hs121⟩
def askedB (r:TRq):Bool :=
 (((((decide ((r.cl:Int) ≥ 1)) && (decide ((r.cl:Int)≤8))) && (decide ((r.tm:Int) ≥ 1))) && (decide ((r.tm:Int)≤4611686018427387904))) && (decide ((max ((r.op.ky.size:Nat):Int) ((r.op.tx.size:Nat):Int):Int)≤32))) && (decide ((max ((r.op.va.size:Nat):Int) ((r.op.ol.size:Nat):Int):Int)≤128))
theorem asked_spec {w0 w:World}{L:List Asn}(r:TRq) (hs:St w0 (L) w):Calls Tryz.prog 92 #[.agg (TRq.cells r)] w (Ret fun rv w'=>rv=.bool (askedB r)∧St w0 (L) w'):=by
 refine Zen (args:=[.agg (TRq.cells r)]) Tryz.func92 Tryz.ntmps92 ?_
 refine Zn [(0,.agg (TRq.cells r))] ?_
 refine Zs ?_
 refine Zqt (.ef 0 (.rd 1 .done)) ?_
 refine GoR.box rfl rfl (by kernel_rfl) (v:=.agg (TRq.cells r)) (by kernel_rfl) hs (cs:=TRq.cells r) (by kernel_rfl) ?_
 intro b1 w2 hs3
 refine⟨Zqo,?_⟩
 refine Zr 1 1 [] ?_
 refine Zd (Zt (Zs ?_))
 refine GoC.join (T:=Unit) (E:=fun _=>[(2,.bool ((((((decide ((r.cl:Int) ≥ 1)) && (decide ((r.cl:Int)≤8))) && (decide ((r.tm:Int) ≥ 1))) && (decide ((r.tm:Int)≤4611686018427387904))) && (decide ((max ((r.op.ky.size:Nat):Int) ((r.op.tx.size:Nat):Int):Int)≤32))) && (decide ((max ((r.op.va.size:Nat):Int) ((r.op.ol.size:Nat):Int):Int)≤128))))]) (F:=fun _ w=>St w0 ((Cel b1 (TRq.cells r) 27)::L) w) ?_ ?_
 ·refine Zqt (.rd 0 (.rd 1 (.rd 2 (.rd 3 (.rd 4 (.rd 5 (.rd 6 (.rd 7 (.rd 8 (.rd 9 (.rd 10 (.rd 11 (.rd 12 (.rd 13 (.rd 14 (.rd 15 (.rd 16 (.rd 17 (.rd 18 (.rd 19 (.rd 20 (.rd 21 (.rd 22 (.rd 23 (.rd 24 (.rd 25 (.rd 26 (.rd 27 (.rd 28 (.rd 29 (.rd 30 (.rd 31 (.rd 32 (.rd 33 (.rd 34 (.rd 35 (.rd 36 (.rd 37 (.rd 38 (.rd 39 (.rd 40 (.rd 41 (.rd 42 .done))))))))))))))))))))))))))))))))))))))))))) ?_
  refine Zp 0 4 [(1,.gen [.int .i64 r.cl])] [(1,[.cell ⟨b1,0,none⟩ (.int .i64 r.cl)])] (ak (okc (hs3.cell 0 rfl (by kernel_rfl)) ok0) ak0) ?_
  rcases Bool.eq_false_or_eq_true (decide ((r.cl:Int) ≥ 1)) with h4|h4
  ·refine Zqs 6 true h4 ?_
   have h4':(r.cl:Int) ≥ 1:=of_decide_eq_true h4
   refine Zp 4 5 [(5,.gen [.int .i64 r.cl])] [(5,[.cell ⟨b1,0,none⟩ (.int .i64 r.cl)])] (ak (okc (hs3.cell 0 rfl (by kernel_rfl)) ok0) ak0) ?_
   rcases Bool.eq_false_or_eq_true (decide ((r.cl:Int)≤8)) with h5|h5
   ·refine Zqs 11 true h5 ?_
    have h5':(r.cl:Int)≤8:=of_decide_eq_true h5
    refine Zp 9 5 [(10,.gen [.int .u64 r.tm])] [(10,[.cell ⟨b1,1,none⟩ (.int .u64 r.tm)])] (ak (okc (hs3.cell 0 rfl (by kernel_rfl)) ok0) ak0) ?_
    rcases Bool.eq_false_or_eq_true (decide ((r.tm:Int) ≥ 1)) with h6|h6
    ·refine Zqs 16 true h6 ?_
     have h6':(r.tm:Int) ≥ 1:=of_decide_eq_true h6
     refine Zp 14 5 [(15,.gen [.int .u64 r.tm])] [(15,[.cell ⟨b1,1,none⟩ (.int .u64 r.tm)])] (ak (okc (hs3.cell 0 rfl (by kernel_rfl)) ok0) ak0) ?_
     rcases Bool.eq_false_or_eq_true (decide ((r.tm:Int)≤4611686018427387904)) with h7|h7
     ·refine Zqs 21 true h7 ?_
      have h7':(r.tm:Int)≤4611686018427387904:=of_decide_eq_true h7
      refine Zp 19 12 [(21,.gen [.string r.op.ky]),(25,.gen [.string r.op.tx]),(27,.as_ (.int .i64 (max ((r.op.ky.size:Nat):Int) ((r.op.tx.size:Nat):Int))) (.gen []))] [(21,[.cell ⟨b1,3,none⟩ (.string r.op.ky)]),(25,[.cell ⟨b1,6,none⟩ (.string r.op.tx)]),(27,[.prop (Value.int .i64 (if ((r.op.tx.size:Nat):Int)>((r.op.ky.size:Nat):Int) then ((r.op.tx.size:Nat):Int) else ((r.op.ky.size:Nat):Int))=Value.int .i64 (max ((r.op.ky.size:Nat):Int) ((r.op.tx.size:Nat):Int)))])] (ak (okc (hs3.cell 0 rfl (by kernel_rfl)) ok0) (ak (okc (hs3.cell 0 rfl (by kernel_rfl)) ok0) (ak (okp maxok ok0) ak0))) ?_
      rcases Bool.eq_false_or_eq_true (decide ((max ((r.op.ky.size:Nat):Int) ((r.op.tx.size:Nat):Int):Int)≤32)) with h8|h8
      ·refine Zqs 33 true h8 ?_
       have h8':(max ((r.op.ky.size:Nat):Int) ((r.op.tx.size:Nat):Int):Int)≤32:=of_decide_eq_true h8
       refine Zp 31 12 [(33,.gen [.string r.op.va]),(37,.gen [.string r.op.ol]),(39,.as_ (.int .i64 (max ((r.op.va.size:Nat):Int) ((r.op.ol.size:Nat):Int))) (.gen []))] [(33,[.cell ⟨b1,4,none⟩ (.string r.op.va)]),(37,[.cell ⟨b1,5,none⟩ (.string r.op.ol)]),(39,[.prop (Value.int .i64 (if ((r.op.ol.size:Nat):Int)>((r.op.va.size:Nat):Int) then ((r.op.ol.size:Nat):Int) else ((r.op.va.size:Nat):Int))=Value.int .i64 (max ((r.op.va.size:Nat):Int) ((r.op.ol.size:Nat):Int)))])] (ak (okc (hs3.cell 0 rfl (by kernel_rfl)) ok0) (ak (okc (hs3.cell 0 rfl (by kernel_rfl)) ok0) (ak (okp maxok ok0) ak0))) ?_
       refine Zd ?_
       refine GoQ.pick [2] (S':=[(2,.bool (decide ((max ((r.op.va.size:Nat):Int) ((r.op.ol.size:Nat):Int):Int)≤128)))]) (by kernel_rfl) ?_
       exact GoQ.meet1 () (by first|rfl|(simp only [h4,h5,h6,h7,h8,Bool.not_true,Bool.not_false,Bool.true_or,Bool.false_or,Bool.true_and,Bool.false_and,Bool.or_true,Bool.or_false,Bool.and_true,Bool.and_false];done)|(simp [h4,h5,h6,h7,h8];done)) hs3
      ·refine Zqs 33 false h8 ?_
       have h8':¬ ((max ((r.op.ky.size:Nat):Int) ((r.op.tx.size:Nat):Int):Int)≤32):=of_decide_eq_false h8
       refine Zr 31 12 [] ?_
       refine Zd ?_
       refine GoQ.pick [2] (S':=[(2,.bool false)]) (by kernel_rfl) ?_
       exact GoQ.meet1 () (by first|rfl|(simp only [h4,h5,h6,h7,h8,Bool.not_true,Bool.not_false,Bool.true_or,Bool.false_or,Bool.true_and,Bool.false_and,Bool.or_true,Bool.or_false,Bool.and_true,Bool.and_false];done)|(simp [h4,h5,h6,h7,h8];done)) hs3
     ·refine Zqs 21 false h7 ?_
      have h7':¬ ((r.tm:Int)≤4611686018427387904):=of_decide_eq_false h7
      refine Zr 19 24 [] ?_
      refine Zd ?_
      refine GoQ.pick [2] (S':=[(2,.bool false)]) (by kernel_rfl) ?_
      exact GoQ.meet1 () (by first|rfl|(simp only [h4,h5,h6,h7,Bool.not_true,Bool.not_false,Bool.true_or,Bool.false_or,Bool.true_and,Bool.false_and,Bool.or_true,Bool.or_false,Bool.and_true,Bool.and_false];done)|(simp [h4,h5,h6,h7];done)) hs3
    ·refine Zqs 16 false h6 ?_
     have h6':¬ ((r.tm:Int) ≥ 1):=of_decide_eq_false h6
     refine Zr 14 29 [] ?_
     refine Zd ?_
     refine GoQ.pick [2] (S':=[(2,.bool false)]) (by kernel_rfl) ?_
     exact GoQ.meet1 () (by first|rfl|(simp only [h4,h5,h6,Bool.not_true,Bool.not_false,Bool.true_or,Bool.false_or,Bool.true_and,Bool.false_and,Bool.or_true,Bool.or_false,Bool.and_true,Bool.and_false];done)|(simp [h4,h5,h6];done)) hs3
   ·refine Zqs 11 false h5 ?_
    have h5':¬ ((r.cl:Int)≤8):=of_decide_eq_false h5
    refine Zr 9 34 [] ?_
    refine Zd ?_
    refine GoQ.pick [2] (S':=[(2,.bool false)]) (by kernel_rfl) ?_
    exact GoQ.meet1 () (by first|rfl|(simp only [h4,h5,Bool.not_true,Bool.not_false,Bool.true_or,Bool.false_or,Bool.true_and,Bool.false_and,Bool.or_true,Bool.or_false,Bool.and_true,Bool.and_false];done)|(simp [h4,h5];done)) hs3
  ·refine Zqs 6 false h4 ?_
   have h4':¬ ((r.cl:Int) ≥ 1):=of_decide_eq_false h4
   refine Zr 4 39 [] ?_
   refine Zd ?_
   refine GoQ.pick [2] (S':=[(2,.bool false)]) (by kernel_rfl) ?_
   exact GoQ.meet1 () (by first|rfl|(simp only [h4,Bool.not_true,Bool.not_false,Bool.true_or,Bool.false_or,Bool.true_and,Bool.false_and,Bool.or_true,Bool.or_false,Bool.and_true,Bool.and_false];done)|(simp [h4];done)) hs3
 intro _ w9 hs10
 refine Zt (Ze ?_)
 refine Zq1 (v:=.bool ((((((decide ((r.cl:Int) ≥ 1)) && (decide ((r.cl:Int)≤8))) && (decide ((r.tm:Int) ≥ 1))) && (decide ((r.tm:Int)≤4611686018427387904))) && (decide ((max ((r.op.ky.size:Nat):Int) ((r.op.tx.size:Nat):Int):Int)≤32))) && (decide ((max ((r.op.va.size:Nat):Int) ((r.op.ol.size:Nat):Int):Int)≤128)))) ?_
 have hr:askedB r=((((((decide ((r.cl:Int) ≥ 1)) && (decide ((r.cl:Int)≤8))) && (decide ((r.tm:Int) ≥ 1))) && (decide ((r.tm:Int)≤4611686018427387904))) && (decide ((max ((r.op.ky.size:Nat):Int) ((r.op.tx.size:Nat):Int):Int)≤32))) && (decide ((max ((r.op.va.size:Nat):Int) ((r.op.ol.size:Nat):Int):Int)≤128))):=by rw [askedB]
 have hs11:St w0 (L) w9:=hs10.drop 1
 exact⟨(by first|rfl|(rw [hr];done)|(rw [hr];rfl)),(by first|exact hs11|(rw [hr];exact hs11))⟩
def rqB (r:TRq):List Int:=[IntKind.u8.wrap r.cl,r.op.kd]++(wd r.tm++(wd r.op.am++(tx r.op.ky++(tx r.op.va++(tx r.op.ol++tx r.op.tx)))))
structure RqSz (r:TRq):Prop where
 ky:r.op.ky.size≤128
 va:r.op.va.size≤128
 ol:r.op.ol.size≤128
 tx:r.op.tx.size≤128
theorem rqB_length {r:TRq}(h:RqSz r):(rqB r).length≤538:=by
 have:=h.ky;have:=h.va;have:=h.ol;have:=h.tx
 simp only [rqB,lA,lC,lN,wd_length,tx_length]
 omega
theorem request_spec {w0 w:World}{L:List Asn}{ad:Option Addr}{c:Nat}(l:List Int) (r:TRq) (hl:l.length≤100000) (hk:RqOK r) (hz:RqSz r) (hs:St w0 ((Sl ad c 5 1 byteC l)::L) w):Calls Tryz.prog 88 #[.slice ad l.length c,.agg (TRq.cells r)] w (Ret fun rv w'=>∃ (ao:Option Addr) (co:Nat),rv=.slice ao ((l++rqB r).length) co∧St w0 ((Sl ao co 5 1 byteC (l++rqB r))::L) w'):=by
 refine Zen (args:=[.slice ad l.length c,.agg (TRq.cells r)]) Tryz.func88 Tryz.ntmps88 ?_
 refine Zn [(0,.slice ad l.length c),(1,.agg (TRq.cells r))] ?_
 refine Zs ?_
 have hz1:=hz.ky
 have hz2:=hz.va
 have hz3:=hz.ol
 have hz4:=hz.tx
 have hk1:=hk.tm
 have hk2:=hk.am
 refine Zqt (.ef 0 (.rd 1 .done)) ?_
 refine GoR.box rfl rfl (by kernel_rfl) (v:=.agg (TRq.cells r)) (by kernel_rfl) hs (cs:=TRq.cells r) (by kernel_rfl) ?_
 intro b1 w2 hs3
 refine⟨Zqo,?_⟩
 refine Zr 1 1 [] ?_
 refine Zd (Zt (Zs ?_))
 refine Zqt (.rd 0 (.rd 1 (.rd 2 (.rd 3 (.rd 4 (.rd 5 (.rd 6 (.ef 7 (.ef 8 (.rd 9 .done)))))))))) ?_
 refine Zp 0 7 [(2,.gen [.int .i64 r.cl]),(6,.gen [.int .u8 r.op.kd])] [(2,[.cell ⟨b1,0,none⟩ (.int .i64 r.cl)]),(6,[.cell ⟨b1,2,none⟩ (.int .u8 r.op.kd)])] (ak (okc (hs3.cell 0 rfl (by kernel_rfl)) ok0) (ak (okc (hs3.cell 0 rfl (by kernel_rfl)) ok0) ak0)) ?_
 refine GoR.sliceLit rfl (by kernel_rfl) (t:=39) (e:=5) (n:=2) (ps:=[(0,.int .u8 (IntKind.u8.wrap r.cl)),(1,.int .u8 r.op.kd)]) (by kernel_rfl) (by kernel_rfl) (ti:=Tryz.t5) (z:=.int .u8 0) (by kernel_rfl) (by kernel_rfl) (by decide) (by decide) (cs:=#[.int .u8 (IntKind.u8.wrap r.cl),.int .u8 r.op.kd]) (by kernel_rfl) hs3 ?_
 intro b4 w5 hs6 hz7
 have hs8:St w0 ((Sl (some ⟨b4,0,none⟩) 2 5 1 byteC ([(IntKind.u8.wrap r.cl:Int),(r.op.kd:Int)]))::(Cel b1 (TRq.cells r) 27)::(Sl ad c 5 1 byteC l)::L) w5:=St.slOf (l:=[(IntKind.u8.wrap r.cl:Int),(r.op.kd:Int)]) (f:=byteC) hs6 hz7 (byteF).size (by simp only [lC,lN,maxLen];omega) (by kernel_rfl)
 refine⟨Zqo,?_⟩
 have hs11:St w0 ((Sl ad c 5 1 byteC l)::(Sl (some ⟨b4,0,none⟩) 2 5 1 byteC ([(IntKind.u8.wrap r.cl:Int),(r.op.kd:Int)]))::(Cel b1 (TRq.cells r) 27)::L) w5:=(hs8.pull 2 rfl)
 refine GoR.append rfl (by kernel_rfl) bytesOK byteF (ad:=ad) (c:=c) (xs:=l) (ys:=[(IntKind.u8.wrap r.cl:Int),(r.op.kd:Int)]) (adx:=some ⟨b4,0,none⟩) (cx:=2) (0:Int) (by kernel_rfl) hs11 (hs11.rows 1 rfl (byteF).size (0:Int)) (fun h=>nomatch h) (by simp only [lA,lC,lN,wd_length,hf_length,tx_length] at *;omega) (by simp only [lA,lC,lN,wd_length,hf_length,tx_length] at *;omega) ?_
 intro ad12 c13 w9 hs10
 refine⟨Zqo,?_⟩
 refine Zr 9 1 [] ?_
 refine Zd (Zt (Zs ?_))
 refine GoC.regD [0,0,2,7,0,16,48,127,255] (.rd 0 (.rd 1 (.rd 2 (.rd 4 (.rd 5 (.rd 6 (.ef 3 (.ef 7 (.rd 8 .done))))))))) (by kernel_rfl) (by kernel_rfl) noPan_body (by kernel_rfl) hs10 ?_
 intro w14 hs15 hw16
 refine Zh [(0,.gen []),(1,.gen []),(2,.gen [.int .u64 r.tm]),(4,.gen []),(5,.gen []),(6,.gen [.int .u64 r.op.am])] [(2,[.cell ⟨b1,1,none⟩ (.int .u64 r.tm)]),(6,[.cell ⟨b1,7,none⟩ (.int .u64 r.op.am)])] (ak (okc (hs15.cell 2 rfl (by kernel_rfl)) ok0) (ak (okc (hs15.cell 2 rfl (by kernel_rfl)) ok0) ak0)) ?_
 refine Zqa (f:=18) (args:=#[.slice ad12 ((l++([(IntKind.u8.wrap r.cl:Int),(r.op.kd:Int)])).length) c13,.int .u64 r.tm]) Tryz.call18 (word_spec (l++([(IntKind.u8.wrap r.cl:Int),(r.op.kd:Int)])) r.tm (by first|omega|(simp only [lA,lC,lN,wd_length] at *;omega)) (by omega) hs15) ?_
 rintro v20 w21 ⟨ao17,co18,rfl,hs19⟩
 refine⟨(opl (n:=[.cell ⟨b1,7,none⟩ (.int .u64 r.op.am)]) (by kernel_rfl) (okc (hs19.cell 2 rfl (by kernel_rfl)) ok0)),?_⟩
 refine Zqa (f:=18) (args:=#[.slice ao17 ((l++([(IntKind.u8.wrap r.cl:Int),(r.op.kd:Int)])++wd r.tm).length) co18,.int .u64 r.op.am]) Tryz.call18 (word_spec (l++([(IntKind.u8.wrap r.cl:Int),(r.op.kd:Int)])++wd r.tm) r.op.am (by first|omega|(simp only [lA,lC,lN,wd_length] at *;omega)) (by omega) hs19) ?_
 rintro v25 w26 ⟨ao22,co23,rfl,hs24⟩
 refine⟨Zqo,?_⟩
 refine Zr 8 1 [] ?_
 refine Zd (Zt (Zs (Zs ?_)))
 refine Zqt (.rd 0 (.rd 1 (.rd 2 (.rd 3 (.rd 4 (.rd 5 (.rd 6 (.rd 7 (.rd 8 (.rd 9 (.rd 10 (.rd 11 (.ef 12 (.rd 13 (.rd 14 .done))))))))))))))) ?_
 refine Zp 0 12 [(2,.gen [.string r.op.ky]),(5,.gen [.string r.op.va]),(8,.gen [.string r.op.ol]),(11,.gen [.string r.op.tx])] [(2,[.cell ⟨b1,3,none⟩ (.string r.op.ky)]),(5,[.cell ⟨b1,4,none⟩ (.string r.op.va)]),(8,[.cell ⟨b1,5,none⟩ (.string r.op.ol)]),(11,[.cell ⟨b1,6,none⟩ (.string r.op.tx)])] (ak (okc (hs24.cell 2 rfl (by kernel_rfl)) ok0) (ak (okc (hs24.cell 2 rfl (by kernel_rfl)) ok0) (ak (okc (hs24.cell 2 rfl (by kernel_rfl)) ok0) (ak (okc (hs24.cell 2 rfl (by kernel_rfl)) ok0) ak0)))) ?_
 refine GoR.sliceLit rfl (by kernel_rfl) (t:=245) (e:=9) (n:=4) (ps:=[(0,.string r.op.ky),(1,.string r.op.va),(2,.string r.op.ol),(3,.string r.op.tx)]) (by kernel_rfl) (by kernel_rfl) (ti:=Tryz.t9) (z:=.string (⟨#[]⟩:ByteArray)) (by kernel_rfl) (by kernel_rfl) (by decide) (by decide) (cs:=#[.string r.op.ky,.string r.op.va,.string r.op.ol,.string r.op.tx]) (by kernel_rfl) hs24 ?_
 intro b27 w28 hs29 hz30
 refine⟨Zqo,?_⟩
 refine Zr 13 2 [] ?_
 refine Zd (Zt (Zb ?_))
 refine GoC.unroll 12 ?_
 refine Zs ?_
 refine Zqt (.rd 0 .done) ?_
 refine Zr 0 1 [] ?_
 refine Zd (Zt (Zs (ZqT (Zk (Zt (Zs (Zb (Zs ?_))))))))
 refine Zqt (.rd 0 (.rd 1 (.rd 2 .done))) ?_
 refine Zp 0 3 [(0,.as_ (zP b27 0) .at_),(1,.gen [.string r.op.ky])] [(0,[.prop (0≤(0:Int)∧(0:Int)<(4:Int)),.prop (Value.pointer (some (Addr.add ⟨b27,0,none⟩ (Int.toNat 0*1)))=Value.pointer (some ⟨b27,0,none⟩))]),(1,[.cell ⟨b27,0,none⟩ (.string r.op.ky)])] (ak (okp (by omega) (okp (ptrAdd _ _ _) ok0)) (ak (okc (hs29.cell 0 rfl (by kernel_rfl)) ok0) ak0)) ?_
 refine Zd (Zt ?_)
 refine Zqt (.rd 0 (.rd 1 (.ef 2 (.rd 3 (.rd 4 (.rd 5 (.rd 6 .done))))))) ?_
 refine Zr 0 2 [] ?_
 have hs31:St w0 ((Sl ao22 co23 5 1 byteC (l++([(IntKind.u8.wrap r.cl:Int),(r.op.kd:Int)])++wd r.tm++wd r.op.am))::(Cel b27 #[.string r.op.ky,.string r.op.va,.string r.op.ol,.string r.op.tx] 9)::(Sl (some ⟨b4,0,none⟩) 2 5 1 byteC ([(IntKind.u8.wrap r.cl:Int),(r.op.kd:Int)]))::(Cel b1 (TRq.cells r) 27)::L) w28:=(hs29.pull 1 rfl)
 refine Zqa (f:=20) (args:=#[.slice ao22 ((l++([(IntKind.u8.wrap r.cl:Int),(r.op.kd:Int)])++wd r.tm++wd r.op.am).length) co23,.string r.op.ky]) Tryz.call20 (text_spec (l++([(IntKind.u8.wrap r.cl:Int),(r.op.kd:Int)])++wd r.tm++wd r.op.am) r.op.ky (by simp only [lA,lC,lN,wd_length,hf_length,tx_length] at *;omega) (by omega) hs31) ?_
 rintro v35 w36 ⟨ao32,co33,rfl,hs34⟩
 refine⟨Zqo,?_⟩
 refine Zr 3 4 [] ?_
 refine Zd (Zm (Zt ?_))
 refine Zqt (.rd 0 (.rd 1 .done)) ?_
 refine Zr 0 2 [] ?_
 refine Zd ?_
 refine GoQ.again ?_
 refine Zs ?_
 refine Zqt (.rd 0 .done) ?_
 refine Zr 0 1 [] ?_
 refine Zd (Zt (Zs (ZqT (Zk (Zt (Zs (Zb (Zs ?_))))))))
 refine Zqt (.rd 0 (.rd 1 (.rd 2 .done))) ?_
 refine Zp 0 3 [(0,.as_ (zP b27 1) .at_),(1,.gen [.string r.op.va])] [(0,[.prop (0≤(1:Int)∧(1:Int)<(4:Int)),.prop (Value.pointer (some (Addr.add ⟨b27,0,none⟩ (Int.toNat 1*1)))=Value.pointer (some ⟨b27,1,none⟩))]),(1,[.cell ⟨b27,1,none⟩ (.string r.op.va)])] (ak (okp (by omega) (okp (ptrAdd _ _ _) ok0)) (ak (okc (hs34.cell 1 rfl (by kernel_rfl)) ok0) ak0)) ?_
 refine Zd (Zt ?_)
 refine Zqt (.rd 0 (.rd 1 (.ef 2 (.rd 3 (.rd 4 (.rd 5 (.rd 6 .done))))))) ?_
 refine Zr 0 2 [] ?_
 refine Zqa (f:=20) (args:=#[.slice ao32 (((l++([(IntKind.u8.wrap r.cl:Int),(r.op.kd:Int)])++wd r.tm++wd r.op.am)++tx r.op.ky).length) co33,.string r.op.va]) Tryz.call20 (text_spec ((l++([(IntKind.u8.wrap r.cl:Int),(r.op.kd:Int)])++wd r.tm++wd r.op.am)++tx r.op.ky) r.op.va (by simp only [lA,lC,lN,wd_length,hf_length,tx_length] at *;omega) (by omega) hs34) ?_
 rintro v40 w41 ⟨ao37,co38,rfl,hs39⟩
 refine⟨Zqo,?_⟩
 refine Zr 3 4 [] ?_
 refine Zd (Zm (Zt ?_))
 refine Zqt (.rd 0 (.rd 1 .done)) ?_
 refine Zr 0 2 [] ?_
 refine Zd ?_
 refine GoQ.again ?_
 refine Zs ?_
 refine Zqt (.rd 0 .done) ?_
 refine Zr 0 1 [] ?_
 refine Zd (Zt (Zs (ZqT (Zk (Zt (Zs (Zb (Zs ?_))))))))
 refine Zqt (.rd 0 (.rd 1 (.rd 2 .done))) ?_
 refine Zp 0 3 [(0,.as_ (zP b27 2) .at_),(1,.gen [.string r.op.ol])] [(0,[.prop (0≤(2:Int)∧(2:Int)<(4:Int)),.prop (Value.pointer (some (Addr.add ⟨b27,0,none⟩ (Int.toNat 2*1)))=Value.pointer (some ⟨b27,2,none⟩))]),(1,[.cell ⟨b27,2,none⟩ (.string r.op.ol)])] (ak (okp (by omega) (okp (ptrAdd _ _ _) ok0)) (ak (okc (hs39.cell 1 rfl (by kernel_rfl)) ok0) ak0)) ?_
 refine Zd (Zt ?_)
 refine Zqt (.rd 0 (.rd 1 (.ef 2 (.rd 3 (.rd 4 (.rd 5 (.rd 6 .done))))))) ?_
 refine Zr 0 2 [] ?_
 refine Zqa (f:=20) (args:=#[.slice ao37 ((((l++([(IntKind.u8.wrap r.cl:Int),(r.op.kd:Int)])++wd r.tm++wd r.op.am)++tx r.op.ky)++tx r.op.va).length) co38,.string r.op.ol]) Tryz.call20 (text_spec (((l++([(IntKind.u8.wrap r.cl:Int),(r.op.kd:Int)])++wd r.tm++wd r.op.am)++tx r.op.ky)++tx r.op.va) r.op.ol (by simp only [lA,lC,lN,wd_length,hf_length,tx_length] at *;omega) (by omega) hs39) ?_
 rintro v45 w46 ⟨ao42,co43,rfl,hs44⟩
 refine⟨Zqo,?_⟩
 refine Zr 3 4 [] ?_
 refine Zd (Zm (Zt ?_))
 refine Zqt (.rd 0 (.rd 1 .done)) ?_
 refine Zr 0 2 [] ?_
 refine Zd ?_
 refine GoQ.again ?_
 refine Zs ?_
 refine Zqt (.rd 0 .done) ?_
 refine Zr 0 1 [] ?_
 refine Zd (Zt (Zs (ZqT (Zk (Zt (Zs (Zb (Zs ?_))))))))
 refine Zqt (.rd 0 (.rd 1 (.rd 2 .done))) ?_
 refine Zp 0 3 [(0,.as_ (zP b27 3) .at_),(1,.gen [.string r.op.tx])] [(0,[.prop (0≤(3:Int)∧(3:Int)<(4:Int)),.prop (Value.pointer (some (Addr.add ⟨b27,0,none⟩ (Int.toNat 3*1)))=Value.pointer (some ⟨b27,3,none⟩))]),(1,[.cell ⟨b27,3,none⟩ (.string r.op.tx)])] (ak (okp (by omega) (okp (ptrAdd _ _ _) ok0)) (ak (okc (hs44.cell 1 rfl (by kernel_rfl)) ok0) ak0)) ?_
 refine Zd (Zt ?_)
 refine Zqt (.rd 0 (.rd 1 (.ef 2 (.rd 3 (.rd 4 (.rd 5 (.rd 6 .done))))))) ?_
 refine Zr 0 2 [] ?_
 refine Zqa (f:=20) (args:=#[.slice ao42 (((((l++([(IntKind.u8.wrap r.cl:Int),(r.op.kd:Int)])++wd r.tm++wd r.op.am)++tx r.op.ky)++tx r.op.va)++tx r.op.ol).length) co43,.string r.op.tx]) Tryz.call20 (text_spec ((((l++([(IntKind.u8.wrap r.cl:Int),(r.op.kd:Int)])++wd r.tm++wd r.op.am)++tx r.op.ky)++tx r.op.va)++tx r.op.ol) r.op.tx (by simp only [lA,lC,lN,wd_length,hf_length,tx_length] at *;omega) (by omega) hs44) ?_
 rintro v50 w51 ⟨ao47,co48,rfl,hs49⟩
 refine⟨Zqo,?_⟩
 refine Zr 3 4 [] ?_
 refine Zd (Zm (Zt ?_))
 refine Zqt (.rd 0 (.rd 1 .done)) ?_
 refine Zr 0 2 [] ?_
 refine Zd ?_
 refine GoQ.again ?_
 refine Zs ?_
 refine Zqt (.rd 0 .done) ?_
 refine Zr 0 1 [] ?_
 refine Zd (Zt (Zs (ZqF (Zx (GoQ.skipC (GoQ.skipL (GoQ.hit (Zt (Zs ?_)))))))))
 refine Zqt (.rd 0 (.rd 1 .done)) ?_
 refine Zr 0 2 [] ?_
 refine Zd (Zt (Ze ?_))
 refine Zq1 (v:=.slice ao47 ((((((l++([(IntKind.u8.wrap r.cl:Int),(r.op.kd:Int)])++wd r.tm++wd r.op.am)++tx r.op.ky)++tx r.op.va)++tx r.op.ol)++tx r.op.tx).length) co48) ?_
 have hs52:St w0 ((Cel b27 #[.string r.op.ky,.string r.op.va,.string r.op.ol,.string r.op.tx] 9)::(Sl (some ⟨b4,0,none⟩) 2 5 1 byteC ([(IntKind.u8.wrap r.cl:Int),(r.op.kd:Int)]))::(Cel b1 (TRq.cells r) 27)::(Sl ao47 co48 5 1 byteC (((((l++([(IntKind.u8.wrap r.cl:Int),(r.op.kd:Int)])++wd r.tm++wd r.op.am)++tx r.op.ky)++tx r.op.va)++tx r.op.ol)++tx r.op.tx))::L) w51:=((((hs49.pull 0 rfl).pull 3 rfl).pull 3 rfl).pull 3 rfl)
 have hs53:St w0 ((Sl ao47 co48 5 1 byteC (((((l++([(IntKind.u8.wrap r.cl:Int),(r.op.kd:Int)])++wd r.tm++wd r.op.am)++tx r.op.ky)++tx r.op.va)++tx r.op.ol)++tx r.op.tx))::L) w51:=hs52.drop 3
 have h9:((((l++([(IntKind.u8.wrap r.cl:Int),(r.op.kd:Int)])++wd r.tm++wd r.op.am)++tx r.op.ky)++tx r.op.va)++tx r.op.ol)++tx r.op.tx=l++rqB r:=by simp only [rqB,List.append_assoc]
 exact⟨ao47,co48,by rw [h9],by rw [← h9];exact hs53⟩
def quorI (was:Int):List TPr→Bool
 | []=>true
 | p::l=>if p.rp≤was∨p.rp>11∨p.nm<1∨p.nm>65536 then false else quorI p.rp l
def quorB (l:List TPr):Bool:=quorI 0 l && decide ((l.length:Int)>0)
theorem quorI_at {l:List TPr}{k:Nat}(h:k<l.length) (was:Int):quorI was (l.drop k)=if (l.getD k dPr).rp≤was∨(l.getD k dPr).rp>11∨(l.getD k dPr).nm<1∨(l.getD k dPr).nm>65536 then false else quorI (l.getD k dPr).rp (l.drop (k+1)):=by
 rw [List.drop_eq_getElem_cons h,show l.getD k dPr=l[k] by rw [List.getD_eq_getElem?_getD,List.getElem?_eq_getElem h];rfl]
 rfl
theorem quorum_spec {w0 w:World}{L:List Asn}{ad:Option Addr}{c:Nat}(l:List TPr) (hll:l.length≤9223372036854775807) (hr:∀ w,St w0 L w→RowsAt w ad l.length 2 (fun k=>TPr.cells (l.getD k dPr))) (hs:St w0 (L) w):Calls Tryz.prog 100 #[.slice ad l.length c] w (Ret fun rv w'=>rv=.bool (quorB l)∧St w0 (L) w'):=by
 refine Zen (args:=[.slice ad l.length c]) Tryz.func100 Tryz.ntmps100 ?_
 refine Zn [(0,.slice ad l.length c)] ?_
 refine Zs ?_
 refine Zqt (.rd 0 .done) ?_
 refine Zr 0 1 [] ?_
 refine Zd (Zt (Zs ?_))
 refine Zqt (.rd 0 .done) ?_
 refine Zr 0 1 [] ?_
 refine Zd (Zt (Zs (Zs ?_)))
 refine Zqt (.rd 0 (.rd 1 (.rd 2 .done))) ?_
 refine Zr 0 3 [] ?_
 refine Zd (Zt (Zb ?_))
 refine GoC.loop (T:=Nat×Int×(Option Addr)) (fun gg=>[(0,.slice ad l.length c),(3,.int .i64 gg.2.1),(6,.slice gg.2.2 l.length c),(7,.int .i64 (l.length:Nat)),(8,.int .i64 (gg.1:Nat))]) (fun gg w=>(gg.1≤l.length∧quorI 0 l=quorI gg.2.1 (l.drop gg.1)∧∀ w,St w0 L w→RowsAt w gg.2.2 l.length 2 (fun q=>TPr.cells (l.getD q dPr)))∧St w0 (L) w) (fun gg=>l.length-gg.1) (0,0,ad) [0,3,6,7,8] (by kernel_rfl) ⟨⟨Nat.zero_le _,rfl,hr⟩,hs⟩ ?_
 rintro⟨k,was,aq⟩ w1 ⟨hp0,hs2⟩
 have hp:k≤l.length∧quorI 0 l=quorI was (l.drop k)∧∀ w,St w0 L w→RowsAt w aq l.length 2 (fun q=>TPr.cells (l.getD q dPr)):=hp0
 have hs3:St w0 (L) w1:=hs2
 refine Zn [(0,.slice ad l.length c),(3,.int .i64 was),(6,.slice aq l.length c),(7,.int .i64 (l.length:Nat)),(8,.int .i64 (k:Nat))] ?_
 have hw:=hp.2.2
 refine Zs ?_
 refine Zqt (.rd 0 .done) ?_
 refine Zr 0 1 [] ?_
 refine Zd (Zt (Zs ?_))
 refine Zqc (t:=decide (((k:Nat):Int)<(l.length:Nat))) (fun h4=>?_) (fun h4=>?_)
 ·have h4':((k:Nat):Int)<(l.length:Nat):=of_decide_eq_true h4
  have hk:k<l.length:=by omega
  obtain⟨ab5,ao6,rfl⟩:=RowsAt.isSome (hw _ (hs3.drop 0)) (by omega)
  refine Zk (Zt (Zs (Zb (Zs ?_))))
  refine Zqt (.rd 0 (.rd 1 (.ef 2 (.ef 3 .done)))) ?_
  refine Zp 0 2 [(0,.as_ (zP ab5 (ao6+(k*2))) .at_),(1,.agg (TPr.cells (l.getD k dPr)))] [(0,[.prop (0≤((k:Nat):Int)∧((k:Nat):Int)<((l.length:Nat):Int)),.prop (Value.pointer (some (Addr.add ⟨ab5,ao6,none⟩ (Int.toNat (k:Nat)*2)))=Value.pointer (some ⟨ab5,ao6+(k*2),none⟩))]),(1,[.prop (Array.size (TPr.cells (l.getD k dPr))=2),.cells ⟨ab5,ao6+(k*2),none⟩ (TPr.cells (l.getD k dPr))])] (ak (okp (by omega) (okp (ptrAdd _ _ _) ok0)) (ak (okp (by kernel_rfl) (oka (RowsAt.all0 (hw _ (hs3.drop 0)) (by first|omega|(simp only [List.length_set];omega)|(simp only [List.length_set,lA,lC,lN];omega)) (Nat.le_of_ble_eq_true (by kernel_rfl)) (by kernel_rfl)) ok0)) ak0)) ?_
  refine GoR.alloc rfl rfl (by kernel_rfl) (z:=.agg (TPr.cells dPr)) (by kernel_rfl) hs3 (cs:=TPr.cells dPr) (by kernel_rfl) ?_
  intro b7 w8 hs9
  refine⟨Zqo,?_⟩
  refine Zw (b:=b7) (off:=0) (v:=.agg (TPr.cells (l.getD k dPr))) (ti:=Tryz.t205) (by kernel_rfl) hs9 0 (L':=(Cel b7 (TPr.cells (l.getD k dPr)) 205)::L) ?_
  intro w10 hs11
  refine⟨Zqo,?_⟩
  refine Zd (Zt (Zs (Zs ?_)))
  refine GoC.join (T:=Unit) (E:=fun _=>[(30,.bool ((((decide (((l.getD k dPr).rp:Int)≤was)) || (decide (((l.getD k dPr).rp:Int)>11))) || (decide (((l.getD k dPr).nm:Int)<1))) || (decide (((l.getD k dPr).nm:Int)>65536)))),(5,zP b7 0),(0,.slice ad l.length c),(3,.int .i64 was),(6,zL ab5 ao6 l.length c),(7,.int .i64 (l.length:Nat)),(8,.int .i64 (k:Nat))]) (F:=fun _ w=>St w0 ((Cel b7 (TPr.cells (l.getD k dPr)) 205)::L) w) ?_ ?_
  ·refine Zqt (.rd 0 (.rd 1 (.rd 2 (.rd 3 (.rd 4 (.rd 5 (.rd 6 (.rd 7 (.rd 8 (.rd 9 (.rd 10 (.rd 11 (.rd 12 (.rd 13 (.rd 14 (.rd 15 (.rd 16 (.rd 17 (.rd 18 .done))))))))))))))))))) ?_
   refine Zp 0 5 [(1,.gen [.int .i64 ((l.getD k dPr).rp)])] [(1,[.cell ⟨b7,0,none⟩ (.int .i64 ((l.getD k dPr).rp))])] (ak (okc (hs11.cell 0 rfl (by kernel_rfl)) ok0) ak0) ?_
   rcases Bool.eq_false_or_eq_true (decide (((l.getD k dPr).rp:Int)≤was)) with h12|h12
   ·refine Zqs 16 true h12 ?_
    have h12':((l.getD k dPr).rp:Int)≤was:=of_decide_eq_true h12
    refine Zr 5 14 [] ?_
    refine Zd ?_
    refine GoQ.pick [30,5,0,3,6,7,8] (S':=[(30,.bool true),(5,zP b7 0),(0,.slice ad l.length c),(3,.int .i64 was),(6,zL ab5 ao6 l.length c),(7,.int .i64 (l.length:Nat)),(8,.int .i64 (k:Nat))]) (by kernel_rfl) ?_
    exact GoQ.meet1 () (by first|rfl|(simp only [h12,Bool.not_true,Bool.not_false,Bool.true_or,Bool.false_or,Bool.true_and,Bool.false_and,Bool.or_true,Bool.or_false,Bool.and_true,Bool.and_false];done)|(simp [h12];done)) hs11
   ·refine Zqs 16 false h12 ?_
    have h12':¬ (((l.getD k dPr).rp:Int)≤was):=of_decide_eq_false h12
    refine Zp 5 5 [(6,.gen [.int .i64 ((l.getD k dPr).rp)])] [(6,[.cell ⟨b7,0,none⟩ (.int .i64 ((l.getD k dPr).rp))])] (ak (okc (hs11.cell 0 rfl (by kernel_rfl)) ok0) ak0) ?_
    rcases Bool.eq_false_or_eq_true (decide (((l.getD k dPr).rp:Int)>11)) with h13|h13
    ·refine Zqs 21 true h13 ?_
     have h13':((l.getD k dPr).rp:Int)>11:=of_decide_eq_true h13
     refine Zr 10 9 [] ?_
     refine Zd ?_
     refine GoQ.pick [30,5,0,3,6,7,8] (S':=[(30,.bool true),(5,zP b7 0),(0,.slice ad l.length c),(3,.int .i64 was),(6,zL ab5 ao6 l.length c),(7,.int .i64 (l.length:Nat)),(8,.int .i64 (k:Nat))]) (by kernel_rfl) ?_
     exact GoQ.meet1 () (by first|rfl|(simp only [h12,h13,Bool.not_true,Bool.not_false,Bool.true_or,Bool.false_or,Bool.true_and,Bool.false_and,Bool.or_true,Bool.or_false,Bool.and_true,Bool.and_false];done)|(simp [h12,h13];done)) hs11
    ·refine Zqs 21 false h13 ?_
     have h13':¬ (((l.getD k dPr).rp:Int)>11):=of_decide_eq_false h13
     refine Zp 10 5 [(11,.gen [.int .u64 ((l.getD k dPr).nm)])] [(11,[.cell ⟨b7,1,none⟩ (.int .u64 ((l.getD k dPr).nm))])] (ak (okc (hs11.cell 0 rfl (by kernel_rfl)) ok0) ak0) ?_
     rcases Bool.eq_false_or_eq_true (decide (((l.getD k dPr).nm:Int)<1)) with h14|h14
     ·refine Zqs 26 true h14 ?_
      have h14':((l.getD k dPr).nm:Int)<1:=of_decide_eq_true h14
      refine Zr 15 4 [] ?_
      refine Zd ?_
      refine GoQ.pick [30,5,0,3,6,7,8] (S':=[(30,.bool true),(5,zP b7 0),(0,.slice ad l.length c),(3,.int .i64 was),(6,zL ab5 ao6 l.length c),(7,.int .i64 (l.length:Nat)),(8,.int .i64 (k:Nat))]) (by kernel_rfl) ?_
      exact GoQ.meet1 () (by first|rfl|(simp only [h12,h13,h14,Bool.not_true,Bool.not_false,Bool.true_or,Bool.false_or,Bool.true_and,Bool.false_and,Bool.or_true,Bool.or_false,Bool.and_true,Bool.and_false];done)|(simp [h12,h13,h14];done)) hs11
     ·refine Zqs 26 false h14 ?_
      have h14':¬ (((l.getD k dPr).nm:Int)<1):=of_decide_eq_false h14
      refine Zp 15 4 [(16,.gen [.int .u64 ((l.getD k dPr).nm)])] [(16,[.cell ⟨b7,1,none⟩ (.int .u64 ((l.getD k dPr).nm))])] (ak (okc (hs11.cell 0 rfl (by kernel_rfl)) ok0) ak0) ?_
      refine Zd ?_
      refine GoQ.pick [30,5,0,3,6,7,8] (S':=[(30,.bool (decide (((l.getD k dPr).nm:Int)>65536))),(5,zP b7 0),(0,.slice ad l.length c),(3,.int .i64 was),(6,zL ab5 ao6 l.length c),(7,.int .i64 (l.length:Nat)),(8,.int .i64 (k:Nat))]) (by kernel_rfl) ?_
      exact GoQ.meet1 () (by first|rfl|(simp only [h12,h13,h14,Bool.not_true,Bool.not_false,Bool.true_or,Bool.false_or,Bool.true_and,Bool.false_and,Bool.or_true,Bool.or_false,Bool.and_true,Bool.and_false];done)|(simp [h12,h13,h14];done)) hs11
  intro _ w15 hs16
  refine Zt ?_
  refine Zqc (t:=(((decide (((l.getD k dPr).rp:Int)≤was)) || (decide (((l.getD k dPr).rp:Int)>11))) || (decide (((l.getD k dPr).nm:Int)<1))) || (decide (((l.getD k dPr).nm:Int)>65536))) (fun h17=>?_) (fun h17=>?_)
  ·refine Zs ?_
   refine Zqt (.rd 0 .done) ?_
   refine Zr 0 1 [] ?_
   refine Zd (Zt (Ze (Zy (Zl (Zy (GoQ.skipLR (Zl (Zy ?_))))))))
   refine Zq1 (v:=.bool false) ?_
   have hs18:St w0 (L) w15:=hs16.drop 1
   exact⟨(by unfold quorB;rw [hp.2.1,quorI_at hk,if_pos (by simp only [Bool.or_eq_true,decide_eq_true_eq] at h17;omega)];rfl),hs18⟩
  ·have h17a:(((decide (((l.getD k dPr).rp:Int)≤was)) || (decide (((l.getD k dPr).rp:Int)>11))) || (decide (((l.getD k dPr).nm:Int)<1)))=false:=(Bool.or_eq_false_iff.1 h17).1
   have h17aa:((decide (((l.getD k dPr).rp:Int)≤was)) || (decide (((l.getD k dPr).rp:Int)>11)))=false:=(Bool.or_eq_false_iff.1 h17a).1
   have h17aaa:(decide (((l.getD k dPr).rp:Int)≤was))=false:=(Bool.or_eq_false_iff.1 h17aa).1
   have h17aaa':¬ (((l.getD k dPr).rp:Int)≤was):=of_decide_eq_false h17aaa
   have h17aab:(decide (((l.getD k dPr).rp:Int)>11))=false:=(Bool.or_eq_false_iff.1 h17aa).2
   have h17aab':¬ (((l.getD k dPr).rp:Int)>11):=of_decide_eq_false h17aab
   have h17ab:(decide (((l.getD k dPr).nm:Int)<1))=false:=(Bool.or_eq_false_iff.1 h17a).2
   have h17ab':¬ (((l.getD k dPr).nm:Int)<1):=of_decide_eq_false h17ab
   have h17b:(decide (((l.getD k dPr).nm:Int)>65536))=false:=(Bool.or_eq_false_iff.1 h17).2
   have h17b':¬ (((l.getD k dPr).nm:Int)>65536):=of_decide_eq_false h17b
   refine Zk (Zt ?_)
   refine Zqt (.rd 0 (.rd 1 (.rd 2 .done))) ?_
   refine Zp 0 3 [(1,.gen [.int .i64 ((l.getD k dPr).rp)])] [(1,[.cell ⟨b7,0,none⟩ (.int .i64 ((l.getD k dPr).rp))])] (ak (okc (hs16.cell 0 rfl (by kernel_rfl)) ok0) ak0) ?_
   refine Zd (Zm (Zt ?_))
   refine Zqt (.rd 0 (.rd 1 .done)) ?_
   refine Zp 0 2 [(0,.as_ (.int .i64 ((k:Nat)+1)) (.gen []))] [(0,[.prop (Value.int .i64 (IntKind.i64.wrap ((k:Nat)+1))=Value.int .i64 ((k:Nat)+1))])] (ak (okp (i64ok (by omega) (by omega)) ok0) ak0) ?_
   refine Zd ?_
   have hs19:St w0 (L) w15:=hs16.drop 1
   exact GoQ.back (k+1,(l.getD k dPr).rp,some ⟨ab5,ao6,none⟩) [0,3,6,7,8] (by kernel_rfl) (by show l.length-(k+1)<l.length-k;omega) ⟨⟨by omega,by rw [hp.2.1,quorI_at hk,if_neg (by omega)],hw⟩,hs19⟩
 ·have h4':¬ (((k:Nat):Int)<(l.length:Nat)):=of_decide_eq_false h4
  have hke:l.drop k=[]:=List.drop_of_length_le (by omega)
  refine Zx (GoQ.skipC (GoQ.skipL (GoQ.hit (Zt (Zs ?_)))))
  refine Zqt (.rd 0 (.rd 1 (.rd 2 (.rd 3 .done)))) ?_
  refine Zr 0 4 [] ?_
  refine Zd (Zt (Ze ?_))
  refine Zq1 (v:=.bool (decide (((l.length:Nat):Int)>0))) ?_
  exact⟨(by unfold quorB;rw [hp.2.1,hke];rfl),hs3⟩
def kB (x:TBd):Bool :=
 (decide ((x.k:Int) ≥ 1)) && (decide ((x.k:Int)≤4611686018427387904))
theorem k_spec {w0 w:World}{L:List Asn}(x:TBd) (hs:St w0 (L) w):Calls Tryz.prog 95 #[.agg (TBd.cells x)] w (Ret fun rv w'=>rv=.bool (kB x)∧St w0 (L) w'):=by
 refine Zen (args:=[.agg (TBd.cells x)]) Tryz.func95 Tryz.ntmps95 ?_
 refine Zn [(0,.agg (TBd.cells x))] ?_
 refine Zs ?_
 refine Zqt (.ef 0 (.rd 1 .done)) ?_
 refine GoR.box rfl rfl (by kernel_rfl) (v:=.agg (TBd.cells x)) (by kernel_rfl) hs (cs:=TBd.cells x) (by kernel_rfl) ?_
 intro b1 w2 hs3
 refine⟨Zqo,?_⟩
 refine Zr 1 1 [] ?_
 refine Zd (Zt (Zs ?_))
 refine GoC.join (T:=Unit) (E:=fun _=>[(2,.bool ((decide ((x.k:Int) ≥ 1)) && (decide ((x.k:Int)≤4611686018427387904))))]) (F:=fun _ w=>St w0 ((Cel b1 (TBd.cells x) 30)::L) w) ?_ ?_
 ·refine Zqt (.rd 0 (.rd 1 (.rd 2 (.rd 3 (.rd 4 (.rd 5 (.rd 6 (.rd 7 (.rd 8 .done))))))))) ?_
  refine Zp 0 4 [(1,.gen [.int .u64 x.k])] [(1,[.cell ⟨b1,2,none⟩ (.int .u64 x.k)])] (ak (okc (hs3.cell 0 rfl (by kernel_rfl)) ok0) ak0) ?_
  rcases Bool.eq_false_or_eq_true (decide ((x.k:Int) ≥ 1)) with h4|h4
  ·refine Zqs 6 true h4 ?_
   have h4':(x.k:Int) ≥ 1:=of_decide_eq_true h4
   refine Zp 4 5 [(5,.gen [.int .u64 x.k])] [(5,[.cell ⟨b1,2,none⟩ (.int .u64 x.k)])] (ak (okc (hs3.cell 0 rfl (by kernel_rfl)) ok0) ak0) ?_
   refine Zd ?_
   refine GoQ.pick [2] (S':=[(2,.bool (decide ((x.k:Int)≤4611686018427387904)))]) (by kernel_rfl) ?_
   exact GoQ.meet1 () (by first|rfl|(simp only [h4,Bool.not_true,Bool.not_false,Bool.true_or,Bool.false_or,Bool.true_and,Bool.false_and,Bool.or_true,Bool.or_false,Bool.and_true,Bool.and_false];done)|(simp [h4];done)) hs3
  ·refine Zqs 6 false h4 ?_
   have h4':¬ ((x.k:Int) ≥ 1):=of_decide_eq_false h4
   refine Zr 4 5 [] ?_
   refine Zd ?_
   refine GoQ.pick [2] (S':=[(2,.bool false)]) (by kernel_rfl) ?_
   exact GoQ.meet1 () (by first|rfl|(simp only [h4,Bool.not_true,Bool.not_false,Bool.true_or,Bool.false_or,Bool.true_and,Bool.false_and,Bool.or_true,Bool.or_false,Bool.and_true,Bool.and_false];done)|(simp [h4];done)) hs3
 intro _ w5 hs6
 refine Zt (Ze ?_)
 refine Zq1 (v:=.bool ((decide ((x.k:Int) ≥ 1)) && (decide ((x.k:Int)≤4611686018427387904)))) ?_
 have hr:kB x=((decide ((x.k:Int) ≥ 1)) && (decide ((x.k:Int)≤4611686018427387904))):=by rw [kB]
 have hs7:St w0 (L) w5:=hs6.drop 1
 exact⟨(by first|rfl|(rw [hr];done)|(rw [hr];rfl)),(by first|exact hs7|(rw [hr];exact hs7))⟩
end Go.Proofs.YtmeacpdadahafaaGreatDoor
