/-
  Several texts in one: OctA, OctB, OctW, OctN, TbA, TbB, TbC, TbD, TbE, TbF, TbG, TbH.
-/
import Derived.Test.YtlomlmbbiopaaaaGreatDoorSxT
import Derived.Test.YtlomlmbbiopaaaaGreatDoorProg
namespace Go.Proofs.YtlomlmbbiopaaaaGreatDoor
open Go.RowKit Go.Sx
set_option linter.unusedVariables false
set_option linter.unusedSimpArgs false
set_option linter.unnecessarySimpa false
set_option maxRecDepth 100000
section
variable {w0 w : World} {L : List Asn}
def byteC (n:Int):Array Value:=#[.int .u8 n]
theorem byteF:CellF byteC 1:=⟨fun _=>rfl,fun _=>rfl⟩
theorem bytesOK:ElemOK Tryz.prog 22 5 1 1:=⟨by kernel_rfl,⟨Tryz.t5,.int .u8 0,by kernel_rfl,by kernel_rfl,by kernel_rfl,by kernel_rfl,by kernel_rfl⟩,by decide⟩
theorem cloneS_spec {b:Nat}{c:Nat}(l) (hl:l.length≤1000000000000) (hs:St w0 ((Sl (some ⟨b,0,none⟩) c 5 1 byteC l)::L) w):Cs Tryz.prog 72 #[zL b 0 l.length c] w fun rv w'=>∃ ao co,rv=.slice ao l.length co∧St w0 ((Sl ao co 5 1 byteC l)::(Sl (some ⟨b,0,none⟩) c 5 1 byteC l)::L) w':=by
 refine Zen Tryz.func72 Tryz.ntmps72 (En (Lq (Ls (Lq (LF (Lk (Lt (Ls (Lg [0,2] (Dz (GoR.sliceLit0 rfl (by kernel_rfl) (t:=22) (e:=5) (by kernel_rfl) (by kernel_rfl) (ti:=Tryz.t5) (by kernel_rfl) hs fun i o q u=>?_)))))))))))
 have x:St w0 ((Sl (some ⟨i,0,none⟩) 0 5 1 byteC ([]:List Int))::(Sl (some ⟨b,0,none⟩) c 5 1 byteC l)::L) o:=St.slOf (l:=([]:List Int)) (f:=byteC) q u (byteF).size (by simp only [lC,lN,maxLen];omega) (by kernel_rfl)
 exact Lo (Lw (Zap bytesOK byteF (0:Int) x (by simp only [lA,lC,lN,List.length_map] at *;omega) fun a d w6 z=>Lz (Le (Dz (Zq1 (v:=.slice a ((l).length) d) ⟨a,d,(by simp),z⟩)))))
theorem cloneN_spec (hs:St w0 (L) w):Cs Tryz.prog 72 #[.slice none 0 0] w fun rv w'=>rv=.slice none 0 0∧St w0 (L) w':=by
 exact Zen Tryz.func72 Tryz.ntmps72 (En (Lq (Ls (Lq (LT (Lq (Le (Ly (Dz (Zq1 (v:=.slice none 0 0) ⟨rfl,hs⟩))))))))))
end
theorem grown_sl {w0 w w':World}{L:List Asn}{ad base:Option Addr}{c n:Nat}{l:List Int}{all:List Value}{v:Value}(hs:St w0 (Sl ad c 5 1 byteC l::L) w) (hb:base=ad) (hx:all.take l.length=l.flatMap fun x=>(byteC x).toList) (h:Grown w0 (Sl ad c 5 1 byteC l::L) w base l.length c n all v w') :
 ∃ (ao:Option Addr) (co:Nat),v=.slice ao l.length co∧St w0 (Sl ao co 5 1 byteC l::L) w':=by
 subst hb
 rcases h with⟨-,rfl,rfl⟩|⟨cap,rest,e1,e2,rfl,e3,rfl⟩
 ·exact⟨_,_,rfl,hs⟩
 ·have hf:=flat_length (f:=byteC) (size:=1) (fun _=>rfl) l
  have hd:St w0 L { w with drawn:=w.drawn+1 }:=(hs.tail).drew
  refine⟨_,_,rfl,(St.new hd rfl rfl rfl (by simp) (fun b hb=>?_) ?_ (fun b hb=>?_))⟩
  ·have hb':b<w.heap.size:=hb
   simp only [Array.getElem?_push];rw [if_neg (by omega)]
  ·refine⟨hf,.inr ⟨w.heap.size,cap,(all++rest).toArray,rfl,Nat.zero_le _,by simp,e1,by simp only [maxLen];omega,by simpa using e3,?_⟩⟩
   have hl:l.length≤all.length:=by
    have:=congrArg List.length hx
    rw [List.length_take,hf] at this
    omega
   rw [Nat.mul_one,List.take_append_of_le_length hl,hx]
  ·have:some w.heap.size=some b:=hb
   cases this
   simp
theorem growS_spec {w0 w:World}{L:List Asn}{b c:Nat}(l:List Int) (n:Nat) (hl:l.length≤1000000) (hn:n≤1000000) (hs:St w0 (Sl (some ⟨b,0,none⟩) c 5 1 byteC l::L) w) :
 Calls Tryz.prog 125 #[zL b 0 l.length c,.int .i64 n] w (Ret fun rv w'=>∃ (ao:Option Addr) (co:Nat),rv=.slice ao l.length co∧St w0 (Sl ao co 5 1 byteC l::L) w'):=by
 obtain⟨h1,h2⟩:=hs.holds _ (List.mem_cons_self ..)
 rcases h2 with⟨h2,-⟩|⟨g,cap,cur,h2,-,h4,h5,h6,h7,h8⟩
 ·cases h2
 ·cases h2
  refine Calls.ret (grow_spec (all:=cur.toList) (n:=n) hs (fun ad h=>by cases h;rfl) h5 (by simp only [maxLen] at h6;omega) hn hl (by rw [Array.length_toList];omega) fun w1 hw=>?_) (fun v w' h=>grown_sl hs rfl (by rw [← h8,Nat.mul_one]) h)
  simp only [Builtin.firstCells,loadCells]
  refine run_loadCells0 _ _ (by simpa using h7) fun i hi=>?_
  rw [add_mk,Nat.zero_add]
  simp only [World.cell?,hw,h4]
  simp
theorem growN_spec {w0 w:World}{L:List Asn}{c:Nat}(n:Nat) (hn:n≤1000000) (hs:St w0 (Sl none 0 5 1 byteC []::L) w) :
 Calls Tryz.prog 125 #[.slice none 0 0,.int .i64 n] w (Ret fun rv w'=>∃ (ao:Option Addr) (co:Nat),rv=.slice ao (([]:List Int).length) co∧St w0 (Sl ao co 5 1 byteC []::L) w') :=
 Calls.ret (grow_spec (all:=[]) (n:=n) (len:=0) (c:=0) (base:=none) hs (fun ad h=>by cases h) (Nat.le_refl _) (by omega) hn (by omega) rfl (fun w1 _=>by simp [Builtin.firstCells])) (fun v w' h=>grown_sl (l:=[]) hs rfl rfl h)
theorem clone_spec2 {w0 w:World}{L:List Asn}{ad:Option Addr}{c:Nat}(l:List Int) (hl:l.length≤1000000) (hs:St w0 (Sl ad c 5 1 byteC l::L) w) :
 Calls Tryz.prog 72 #[.slice ad l.length c] w (Ret fun rv w'=>∃ (ao:Option Addr) (co:Nat),rv=.slice ao l.length co∧St w0 (Sl ao co 5 1 byteC l::L) w'):=by
 obtain⟨h1,h2⟩:=hs.holds _ (List.mem_cons_self ..)
 rcases h2 with⟨h2,h3⟩|⟨g,cap,cur,h2,-⟩
 ·obtain rfl:l=[]:=List.length_eq_zero_iff.1 h3
  cases h2
  refine Calls.ret (cloneN_spec hs) ?_
  rintro v w' ⟨rfl,h⟩
  exact⟨none,0,rfl,h⟩
 ·cases h2
  refine Calls.ret (cloneS_spec l (by omega) hs) ?_
  rintro v w' ⟨ao,co,rfl,h⟩
  exact⟨ao,co,rfl,h.sub (List.Sublist.cons_cons _ (List.Sublist.cons _ (List.Sublist.refl _)))⟩
theorem grow_spec2 {w0 w:World}{L:List Asn}{ad:Option Addr}{c:Nat}(l:List Int) (n:Nat) (hl:l.length≤1000000) (hn:n≤1000000) (hs:St w0 (Sl ad c 5 1 byteC l::L) w) :
 Calls Tryz.prog 125 #[.slice ad l.length c,.int .i64 n] w (Ret fun rv w'=>∃ (ao:Option Addr) (co:Nat),rv=.slice ao l.length co∧St w0 (Sl ao co 5 1 byteC l::L) w'):=by
 obtain⟨h1,h2⟩:=hs.holds _ (List.mem_cons_self ..)
 rcases h2 with⟨h2,h3⟩|⟨g,cap,cur,h2,-⟩
 ·obtain rfl:l=[]:=List.length_eq_zero_iff.1 h3
  cases h2
  exact growN_spec (c:=0) n hn hs
 ·cases h2
  exact growS_spec l n hl hn hs
section
variable {w0 w : World} {L : List Asn} {ad : Option Addr} {c : Nat}
def wdb (n:Int) (x:Nat):Int:=(fun z:Int=>IntKind.u8.wrap (iShr .u64 n (8*z))) (7-(x:Nat))
def wdn (n:Int) (x:Nat):List Int:=(List.range x).map (wdb n)
theorem wdn_succ (n:Int) (x:Nat):wdn n (x+1)=wdn n x++[wdb n x]:=by simp [wdn,List.range_succ]
theorem wdn_length (n:Int) (x:Nat):(wdn n x).length=x:=by simp [wdn]
def wd (n:Int):List Int:=wdn n 8
theorem wd_length (n:Int):(wd n).length=8:=wdn_length n 8
theorem putW_spec (l) (n) (hl:l.length≤900000) (hn:0≤n∧n≤18446744073709551615) (hs:St w0 ((Sl ad c 5 1 byteC l)::L) w):Cs Tryz.prog 94 #[.slice ad l.length c,.int .u64 n,.int .i64 8] w fun rv w'=>∃ ao co,rv=.slice ao ((l++wd n).length) co∧St w0 ((Sl ao co 5 1 byteC (l++wd n))::L) w':=by
 refine Zen Tryz.func94 Tryz.ntmps94 (En (Lq (Ls (Lg [1,3] (Lw (Zqa (f:=72) (args:=#[.slice ad l.length c]) Tryz.call72 (clone_spec2 l (by first|omega|(simp only [lA,lC,lN,wd_length] at *;omega)) hs) ?_))))))
 rintro v4 w5 ⟨b,d,rfl,e⟩
 refine Lo (Lw (Zqa (f:=125) (args:=#[.slice b l.length d,.int .i64 8]) Tryz.call125 (grow_spec2 l 8 (by first|omega|(simp only [lA,lC,lN,wd_length] at *;omega)) (by omega) e) ?_))
 rintro v9 a8 ⟨i,o,rfl,u⟩
 refine Lz (Ls (Lq (Lb (Dz (GoC.loop (T:=Nat×Int×(List Int)×(Option Addr)×Nat) (fun gg=>[(1,.int .u64 n),(6,.slice none 0 0),(7,.slice gg.2.2.2.1 gg.2.2.1.length gg.2.2.2.2),(8,.int .i64 gg.2.1)]) (fun gg w=>(gg.1≤8∧gg.2.1=7-(gg.1:Nat)∧gg.2.2.1=l++wdn n gg.1)∧St w0 ((Sl gg.2.2.2.1 gg.2.2.2.2 5 1 byteC gg.2.2.1)::L) w) (fun gg=>8-gg.1) (0,7,l,i,o) [1,6,7,8] (by kernel_rfl) ⟨⟨by first|omega|(simp only;omega),by first|omega|(simp only;omega),by simp [wdn]⟩,u⟩ ?_)))))
 rintro⟨x,z,q,ad,c⟩ a9 ⟨hp,a⟩
 dsimp only at hp a
 refine En (Ls (Lq (Dz (Zi ((z:Int) ≥ 0) (fun a0=>?_) (fun a0=>?_)))))
 ·refine Zk (Zt (Zs (Zb (Zgj [6,7] (Hwi 3 (8*z) (Hg 4 (.shift (iShr .u64 n (8*z))) [.prop ((0:Int)≤8*z∧Int.fdiv n (2 ^ (min (Int.toNat (8*z)) (IntKind.bits .u64)))=iShr .u64 n (8*z))] (okp ⟨(by first|omega|exact uwrap_nn rfl _),rfl⟩ ok0) Hz)) (Zll bytesOK byteF [(IntKind.u8.wrap (iShr .u64 n (8*z)):Int)] a fun b0 b1 a1=>Lo (Dz (Zap bytesOK byteF (0:Int) (a1.pl 1) (by rw [hp.2.2,lA,wdn_length];simp only [lC,lN];omega) fun a3 a4 b2 a5=>Lo (Lud (Lm (Lt (Dz (Zaj (Hwi 1 (z-1) Hz) ?_))))))))))))
  have a6:=((a5.pl 0).pl 1)
  exact GoQ.back (x+1,z-1,q++([(IntKind.u8.wrap (iShr .u64 n (8*z)):Int)]),a3,a4) [1,6,7,8] (by kernel_rfl) (by show 8-(x+1)<8-x;omega) ⟨(by refine⟨by first|omega|(simp only;omega),by first|omega|(simp only;omega),?_⟩;rw [hp.2.2,List.append_assoc,hp.2.1];exact congrArg (l++·) (wdn_succ n x).symm),(a6.dr 1)⟩
 ·refine En (Lx (LsC (LsL (Lh (Lt (Lq (Le (Dz (Zq1 (v:=.slice ad q.length c) ?_)))))))))
  have hx:x=8:=by omega
  have hq:q=l++wd n:=by rw [hp.2.2,hx];rfl
  subst hq
  exact⟨ad,c,rfl,a⟩
theorem word_spec (l) (n) (hl:l.length≤900000) (hn:0≤n∧n≤18446744073709551615) (hs:St w0 ((Sl ad c 5 1 byteC l)::L) w):Cs Tryz.prog 59 #[.slice ad l.length c,.int .u64 n] w fun rv w'=>∃ ao co,rv=.slice ao ((l++wd n).length) co∧St w0 ((Sl ao co 5 1 byteC (l++wd n))::L) w':=by
 refine Zen Tryz.func59 Tryz.ntmps59 (En (Lq (Ls (Lg [2] (Lw (Zc (putW_spec l n (by first|omega|(simp only [lA,lC,lN,wd_length] at *;omega)) (by omega) hs) ?_))))))
 rintro e f ⟨a,b,rfl,d⟩
 exact Lz (Le (Dz (Zq1 (v:=.slice a ((l++wd n).length) b) ⟨a,b,rfl,d⟩)))
end
end Go.Proofs.YtlomlmbbiopaaaaGreatDoor
namespace Go.Proofs.YtlomlmbbiopaaaaGreatDoor
open Go.RowKit Go.Sx
set_option linter.unusedVariables false
set_option linter.unusedSimpArgs false
def numB (l:List Int):Int:=l.foldl (fun n x=>iOr .u64 (iShl .u64 n 8) (IntKind.u64.wrap x)) 0
theorem numB_succ {l:List Int}{k:Nat}(hk:k<l.length):numB (l.take (k+1))=iOr .u64 (iShl .u64 (numB (l.take k)) 8) (IntKind.u64.wrap (l.getD k 0)):=by
 rw [take_succ_getD (d:=(0:Int)) hk]
 simp only [numB,List.foldl_append,List.foldl_cons,List.foldl_nil]
theorem u64_id {n:Int}(h0:0≤n) (h1:n<18446744073709551616):IntKind.u64.wrap n=n:=u64w h0 (by omega)
theorem or8 {a b:Int}(ha:0≤a) (hb:0≤b∧b<256) (h:a*256+b<18446744073709551616):iOr .u64 (iShl .u64 a 8) b=a*256+b:=by
 obtain⟨A,rfl⟩:∃ A:Nat,a=A:=⟨a.toNat,by omega⟩
 obtain⟨B,rfl⟩:∃ B:Nat,b=B:=⟨b.toNat,by omega⟩
 have e1:iShl .u64 (A:Int) 8=((A*256:Nat):Int):=by
  show IntKind.u64.wrap ((A:Int)*2 ^ 8)=_
  rw [show((A:Int)*2 ^ 8)=((A*256:Nat):Int) by omega]
  exact u64_id (by omega) (by omega)
 rw [e1]
 show IntKind.u64.wrap (((BitVec.ofInt 64 ((A*256:Nat):Int) ||| BitVec.ofInt 64 ((B:Nat):Int)).toNat:Nat):Int)=_
 rw [BitVec.ofInt_natCast,BitVec.ofInt_natCast,BitVec.toNat_or,BitVec.toNat_ofNat,BitVec.toNat_ofNat,Nat.mod_eq_of_lt (by omega),Nat.mod_eq_of_lt (by omega)]
 have e2:=Nat.two_pow_add_eq_or_of_lt (i:=8) (b:=B) (by omega) A
 rw [show A*256=2 ^ 8*A by omega,← e2,u64_id (by omega) (by omega)]
 omega
theorem iShr_nat (n:Nat) (k:Nat) (hk:k≤64):iShr .u64 (n:Int) (k:Int)=((n / 2 ^ k:Nat):Int):=by
 show(n:Int).fdiv (2 ^ (min (Int.toNat (k:Int)) 64))=_
 rw [Int.toNat_natCast,Nat.min_eq_left hk,Int.fdiv_eq_ediv_of_nonneg _ (by exact Int.pow_nonneg (by decide))]
 rw [Int.natCast_ediv,Int.natCast_pow]
 rfl
theorem wdb_nat (n:Nat) (x:Nat) (hx:x<8):wdb (n:Int) x=((n / 2 ^ (8*(7-x)) % 256:Nat):Int):=by
 show IntKind.u8.wrap (iShr .u64 (n:Int) (8*((7:Int)-(x:Nat))))=_
 rw [show(8*((7:Int)-(x:Nat)))=((8*(7-x):Nat):Int) by omega,iShr_nat n _ (by omega)]
 show((n / 2 ^ (8*(7-x)):Nat):Int) % 256=_
 omega
theorem numB_wdn (n:Nat) (hn:n<18446744073709551616):∀ k,k≤8→numB (wdn (n:Int) k)=((n / 2 ^ (8*(8-k)):Nat):Int)
 | 0,_=>by
  show(0:Int)=_
  rw [Nat.div_eq_of_lt (by exact hn)]
  rfl
 | k+1,hk=>by
  have ih:=numB_wdn n hn k (by omega)
  rw [wdn_succ]
  have e:numB (wdn (n:Int) k++[wdb (n:Int) k])=iOr .u64 (iShl .u64 (numB (wdn (n:Int) k)) 8) (IntKind.u64.wrap (wdb (n:Int) k)):=by
   simp only [numB,List.foldl_append,List.foldl_cons,List.foldl_nil]
  have hdiv:n / 2 ^ (8*(8-k))=n / 2 ^ (8*(8-(k+1))) / 256:=by
   rw [Nat.div_div_eq_div_mul,show 8*(8-k)=8*(8-(k+1))+8 by omega,Nat.pow_add]
  have hle:n / 2 ^ (8*(8-(k+1)))≤n:=Nat.div_le_self ..
  rw [e,ih,wdb_nat n k (by omega),u64_id (by omega) (by omega),show 8*(7-k)=8*(8-(k+1)) by omega,hdiv]
  generalize n / 2 ^ (8*(8-(k+1)))=q at hle ⊢
  rw [or8 (by omega) (by omega) (by omega)]
  omega
theorem numB_wd {v:Int}(h:0≤v∧v<18446744073709551616):numB (wd v)=v:=by
 obtain⟨n,rfl⟩:∃ n:Nat,v=n:=⟨v.toNat,by omega⟩
 rw [wd,numB_wdn n (by omega) 8 (Nat.le_refl _)]
 simp
theorem subAd_some {ad:Option Addr}{c lo size:Nat}(h:∃ b off,ad=some ⟨b,off,none⟩):∃ b off,subAd ad c lo size=some ⟨b,off,none⟩:=by
 obtain⟨b,off,rfl⟩:=h
 unfold subAd
 split
 ·exact⟨_,_,rfl⟩
 ·exact⟨b,off+lo*size,by simp [Addr.add]⟩
theorem strOf_strB (s:ByteArray):strOf (strB s)=s:=by
 unfold strOf strB
 rw [List.map_map]
 have e:(s.data.toList.map (u8of ∘ fun b:UInt8=>(b.toNat:Int)))=s.data.toList:=by
  conv=>rhs;rw [← List.map_id s.data.toList]
  refine List.map_congr_left fun b _=>?_
  show u8of (b.toNat:Int)=b
  apply UInt8.toNat_inj.1
  have h:=u8of_toNat (x:=(b.toNat:Int)) (by omega) (by have:=b.toNat_lt;omega)
  omega
 rw [e]
end Go.Proofs.YtlomlmbbiopaaaaGreatDoor
namespace Go.Proofs.YtlomlmbbiopaaaaGreatDoor
open Go.RowKit Go.Sx
set_option linter.unusedVariables false
set_option linter.unusedSimpArgs false
set_option linter.unnecessarySimpa false
set_option maxRecDepth 100000
section
variable {w0 w : World} {L : List Asn}
theorem ib (a b:Int):(a == b)=decide (a=b):=by
 by_cases h:a=b
 ·simp [h]
 ·simp [h]
def wordC (n:Int):Array Value:=#[.int .u64 n]
abbrev D32:=Vector Int 32
def D32.cells (v:D32):Array Value:=#[.int .u8 v[0],.int .u8 v[1],.int .u8 v[2],.int .u8 v[3],.int .u8 v[4],.int .u8 v[5],.int .u8 v[6],.int .u8 v[7],.int .u8 v[8],.int .u8 v[9],.int .u8 v[10],.int .u8 v[11],.int .u8 v[12],.int .u8 v[13],.int .u8 v[14],.int .u8 v[15],.int .u8 v[16],.int .u8 v[17],.int .u8 v[18],.int .u8 v[19],.int .u8 v[20],.int .u8 v[21],.int .u8 v[22],.int .u8 v[23],.int .u8 v[24],.int .u8 v[25],.int .u8 v[26],.int .u8 v[27],.int .u8 v[28],.int .u8 v[29],.int .u8 v[30],.int .u8 v[31]]
abbrev dD32:D32:=#v[0,0,0,0,0,0,0,0,0,0,0,0,0,0,0,0,0,0,0,0,0,0,0,0,0,0,0,0,0,0,0,0]
theorem D32.eqm (v:D32):D32.cells v=v.toArray.map (Value.int .u8):=by
 apply Array.ext
 ·rw [Array.size_map,v.size_toArray];rfl
 ·intro i a b
  rw [Array.getElem_map]
  have h:i<32:=a
  match i,h with
  | 0,_=>rfl
  | 1,_=>rfl
  | 2,_=>rfl
  | 3,_=>rfl
  | 4,_=>rfl
  | 5,_=>rfl
  | 6,_=>rfl
  | 7,_=>rfl
  | 8,_=>rfl
  | 9,_=>rfl
  | 10,_=>rfl
  | 11,_=>rfl
  | 12,_=>rfl
  | 13,_=>rfl
  | 14,_=>rfl
  | 15,_=>rfl
  | 16,_=>rfl
  | 17,_=>rfl
  | 18,_=>rfl
  | 19,_=>rfl
  | 20,_=>rfl
  | 21,_=>rfl
  | 22,_=>rfl
  | 23,_=>rfl
  | 24,_=>rfl
  | 25,_=>rfl
  | 26,_=>rfl
  | 27,_=>rfl
  | 28,_=>rfl
  | 29,_=>rfl
  | 30,_=>rfl
  | 31,_=>rfl
  | m+32,h=>omega
theorem D32.len (v:D32):v.toList.length=32:=by simp
theorem D32.at_ (d:D32) (i:Nat) (h:i<32):(D32.cells d)[i]?=some (.int .u8 (d.toList.getD i 0)):=by
 rw [D32.eqm,Array.getElem?_map]
 simp [Vector.toList,h]
theorem D32.mid (hs:St w0 L w) (j:Nat){b:Nat}{cs:Array Value}{T:TypeId}(off:Nat) (d:D32) (hj:L[j]?=some (Cel b cs T)) (he:cs.extract off (off+32)=D32.cells d):RowsAt w (some ⟨b,off,none⟩) d.toList.length 1 (fun k=>byteC (d.toList.getD k (0:Int))):=by
 refine fun _=>⟨b,off,rfl,fun k hk i hi=>?_⟩
 have a:k<32:=by rw [D32.len] at hk;exact hk
 obtain rfl:i=0:=by omega
 have e:cs[off+k]?=(D32.cells d)[k]?:=by
  rw [← he,Array.getElem?_extract,if_pos]
  have f:=congrArg Array.size he
  rw [Array.size_extract] at f
  have o:(D32.cells d).size=32:=rfl
  omega
 rw [Nat.mul_one,Nat.add_zero,hs.cell j (off:=off+k) hj (e.trans (D32.at_ d k a))]
 rfl
theorem D32.midc {cs:Array Value}{off k:Nat}{d:D32}(he:cs.extract off (off+32)=D32.cells d) (hk:k<32):cs[off+k*1]?=some (.int .u8 (d.toList.getD k 0)):=by
 have a:cs[off+k]?=(D32.cells d)[k]?:=by
  rw [← he,Array.getElem?_extract,if_pos]
  have b:=congrArg Array.size he
  rw [Array.size_extract] at b
  have e:(D32.cells d).size=32:=rfl
  omega
 rw [Nat.mul_one]
 exact a.trans (D32.at_ d k hk)
def D32.eqb (a b:D32):Bool:=a[0] == b[0] && (a[1] == b[1] && (a[2] == b[2] && (a[3] == b[3] && (a[4] == b[4] && (a[5] == b[5] && (a[6] == b[6] && (a[7] == b[7] && (a[8] == b[8] && (a[9] == b[9] && (a[10] == b[10] && (a[11] == b[11] && (a[12] == b[12] && (a[13] == b[13] && (a[14] == b[14] && (a[15] == b[15] && (a[16] == b[16] && (a[17] == b[17] && (a[18] == b[18] && (a[19] == b[19] && (a[20] == b[20] && (a[21] == b[21] && (a[22] == b[22] && (a[23] == b[23] && (a[24] == b[24] && (a[25] == b[25] && (a[26] == b[26] && (a[27] == b[27] && (a[28] == b[28] && (a[29] == b[29] && (a[30] == b[30] && (a[31] == b[31] && true)))))))))))))))))))))))))))))))
theorem D32.eqb_eq (a b:D32):D32.eqb a b=decide (a=b):=by
 by_cases h:a=b
 ·subst h;simp [D32.eqb]
 ·rw [decide_eq_false h]
  cases ht:D32.eqb a b with
  | false=>rfl
  | true =>
   exfalso
   apply h
   simp only [D32.eqb,Bool.and_eq_true,beq_iff_eq] at ht
   obtain⟨d,e,f,o,q,u,w,x,z,h9,a0,a1,a2,a3,a4,a5,a6,a7,a8,a9,b0,b1,b2,b3,b4,b5,b6,b7,b8,b9,c0,c1,-⟩:=ht
   apply Vector.ext
   intro i hi
   match i,hi with
   | 0,_=>exact d
   | 1,_=>exact e
   | 2,_=>exact f
   | 3,_=>exact o
   | 4,_=>exact q
   | 5,_=>exact u
   | 6,_=>exact w
   | 7,_=>exact x
   | 8,_=>exact z
   | 9,_=>exact h9
   | 10,_=>exact a0
   | 11,_=>exact a1
   | 12,_=>exact a2
   | 13,_=>exact a3
   | 14,_=>exact a4
   | 15,_=>exact a5
   | 16,_=>exact a6
   | 17,_=>exact a7
   | 18,_=>exact a8
   | 19,_=>exact a9
   | 20,_=>exact b0
   | 21,_=>exact b1
   | 22,_=>exact b2
   | 23,_=>exact b3
   | 24,_=>exact b4
   | 25,_=>exact b5
   | 26,_=>exact b6
   | 27,_=>exact b7
   | 28,_=>exact b8
   | 29,_=>exact b9
   | 30,_=>exact c0
   | 31,_=>exact c1
   | m+32,h=>omega
abbrev VecD:=Vector Int 11
def VecD.cells (v:VecD):Array Value:=#[.int .u64 v[0],.int .u64 v[1],.int .u64 v[2],.int .u64 v[3],.int .u64 v[4],.int .u64 v[5],.int .u64 v[6],.int .u64 v[7],.int .u64 v[8],.int .u64 v[9],.int .u64 v[10]]
abbrev dVc:VecD:=#v[0,0,0,0,0,0,0,0,0,0,0]
theorem VecD.eqm (v:VecD):VecD.cells v=v.toArray.map (Value.int .u64):=by
 apply Array.ext
 ·rw [Array.size_map,v.size_toArray];rfl
 ·intro i a b
  rw [Array.getElem_map]
  have h:i<11:=a
  match i,h with
  | 0,_=>rfl
  | 1,_=>rfl
  | 2,_=>rfl
  | 3,_=>rfl
  | 4,_=>rfl
  | 5,_=>rfl
  | 6,_=>rfl
  | 7,_=>rfl
  | 8,_=>rfl
  | 9,_=>rfl
  | 10,_=>rfl
  | m+11,h=>omega
theorem VecD.len (v:VecD):v.toList.length=11:=by simp
theorem VecD.at_ (d:VecD) (i:Nat) (h:i<11):(VecD.cells d)[i]?=some (.int .u64 (d.toList.getD i 0)):=by
 rw [VecD.eqm,Array.getElem?_map]
 simp [Vector.toList,h]
theorem VecD.mid (hs:St w0 L w) (j:Nat){b:Nat}{cs:Array Value}{T:TypeId}(off:Nat) (d:VecD) (hj:L[j]?=some (Cel b cs T)) (he:cs.extract off (off+11)=VecD.cells d):RowsAt w (some ⟨b,off,none⟩) d.toList.length 1 (fun k=>wordC (d.toList.getD k (0:Int))):=by
 refine fun _=>⟨b,off,rfl,fun k hk i hi=>?_⟩
 have a:k<11:=by rw [VecD.len] at hk;exact hk
 obtain rfl:i=0:=by omega
 have e:cs[off+k]?=(VecD.cells d)[k]?:=by
  rw [← he,Array.getElem?_extract,if_pos]
  have f:=congrArg Array.size he
  rw [Array.size_extract] at f
  have o:(VecD.cells d).size=11:=rfl
  omega
 rw [Nat.mul_one,Nat.add_zero,hs.cell j (off:=off+k) hj (e.trans (VecD.at_ d k a))]
 rfl
theorem VecD.midc {cs:Array Value}{off k:Nat}{d:VecD}(he:cs.extract off (off+11)=VecD.cells d) (hk:k<11):cs[off+k*1]?=some (.int .u64 (d.toList.getD k 0)):=by
 have a:cs[off+k]?=(VecD.cells d)[k]?:=by
  rw [← he,Array.getElem?_extract,if_pos]
  have b:=congrArg Array.size he
  rw [Array.size_extract] at b
  have e:(VecD.cells d).size=11:=rfl
  omega
 rw [Nat.mul_one]
 exact a.trans (VecD.at_ d k hk)
def VecD.eqb (a b:VecD):Bool:=a[0] == b[0] && (a[1] == b[1] && (a[2] == b[2] && (a[3] == b[3] && (a[4] == b[4] && (a[5] == b[5] && (a[6] == b[6] && (a[7] == b[7] && (a[8] == b[8] && (a[9] == b[9] && (a[10] == b[10] && true))))))))))
theorem VecD.eqb_eq (a b:VecD):VecD.eqb a b=decide (a=b):=by
 by_cases h:a=b
 ·subst h;simp [VecD.eqb]
 ·rw [decide_eq_false h]
  cases ht:VecD.eqb a b with
  | false=>rfl
  | true =>
   exfalso
   apply h
   simp only [VecD.eqb,Bool.and_eq_true,beq_iff_eq] at ht
   obtain⟨d,e,f,o,q,u,w,x,z,h9,a0,-⟩:=ht
   apply Vector.ext
   intro i hi
   match i,hi with
   | 0,_=>exact d
   | 1,_=>exact e
   | 2,_=>exact f
   | 3,_=>exact o
   | 4,_=>exact q
   | 5,_=>exact u
   | 6,_=>exact w
   | 7,_=>exact x
   | 8,_=>exact z
   | 9,_=>exact h9
   | 10,_=>exact a0
   | m+11,h=>omega
structure TPr where
 rp:Int
 nm:Int
deriving DecidableEq
def TPr.cells (x:TPr):Array Value:=#[.int .i64 x.rp,.int .u64 x.nm]
abbrev dPr:TPr:=⟨0,0⟩
theorem dPrF:CellF TPr.cells 2:=⟨fun _=>rfl,fun _=>rfl⟩
structure TOp where
 kd:Int
 ky:ByteArray
 va:ByteArray
 ol:ByteArray
 tx:ByteArray
 am:Int
deriving DecidableEq
def TOp.cells (x:TOp):Array Value:=#[.int .u8 x.kd,.string x.ky,.string x.va,.string x.ol,.string x.tx,.int .u64 x.am]
abbrev dOp:TOp:=⟨0,⟨#[]⟩,⟨#[]⟩,⟨#[]⟩,⟨#[]⟩,0⟩
theorem dOpF:CellF TOp.cells 6:=⟨fun _=>rfl,fun _=>rfl⟩
structure TRe where
 er:Int
 vl:ByteArray
deriving DecidableEq
def TRe.cells (x:TRe):Array Value:=#[.int .i64 x.er,.string x.vl]
abbrev dRe:TRe:=⟨0,⟨#[]⟩⟩
structure TRq where
 cl:Int
 tm:Int
 op:TOp
 tg:D32
deriving DecidableEq
def TRq.cells (x:TRq):Array Value:=#[.int .i64 x.cl,.int .u64 x.tm,.int .u8 x.op.kd,.string x.op.ky,.string x.op.va,.string x.op.ol,.string x.op.tx,.int .u64 x.op.am,.int .u8 (x.tg[0]),.int .u8 (x.tg[1]),.int .u8 (x.tg[2]),.int .u8 (x.tg[3]),.int .u8 (x.tg[4]),.int .u8 (x.tg[5]),.int .u8 (x.tg[6]),.int .u8 (x.tg[7]),.int .u8 (x.tg[8]),.int .u8 (x.tg[9]),.int .u8 (x.tg[10]),.int .u8 (x.tg[11]),.int .u8 (x.tg[12]),.int .u8 (x.tg[13]),.int .u8 (x.tg[14]),.int .u8 (x.tg[15]),.int .u8 (x.tg[16]),.int .u8 (x.tg[17]),.int .u8 (x.tg[18]),.int .u8 (x.tg[19]),.int .u8 (x.tg[20]),.int .u8 (x.tg[21]),.int .u8 (x.tg[22]),.int .u8 (x.tg[23]),.int .u8 (x.tg[24]),.int .u8 (x.tg[25]),.int .u8 (x.tg[26]),.int .u8 (x.tg[27]),.int .u8 (x.tg[28]),.int .u8 (x.tg[29]),.int .u8 (x.tg[30]),.int .u8 (x.tg[31])]
abbrev dRq:TRq:=⟨0,0,dOp,dD32⟩
structure TBd where
 kd:Int
 vw:Int
 k:Int
 rq:TRq
 qa:Option Addr
 qc:Nat
 ql:List TPr
 dg:D32
def TBd.cells (x:TBd):Array Value:=#[.int .u8 x.kd,.int .u64 x.vw,.int .u64 x.k,.int .i64 x.rq.cl,.int .u64 x.rq.tm,.int .u8 x.rq.op.kd,.string x.rq.op.ky,.string x.rq.op.va,.string x.rq.op.ol,.string x.rq.op.tx,.int .u64 x.rq.op.am,.int .u8 (x.rq.tg[0]),.int .u8 (x.rq.tg[1]),.int .u8 (x.rq.tg[2]),.int .u8 (x.rq.tg[3]),.int .u8 (x.rq.tg[4]),.int .u8 (x.rq.tg[5]),.int .u8 (x.rq.tg[6]),.int .u8 (x.rq.tg[7]),.int .u8 (x.rq.tg[8]),.int .u8 (x.rq.tg[9]),.int .u8 (x.rq.tg[10]),.int .u8 (x.rq.tg[11]),.int .u8 (x.rq.tg[12]),.int .u8 (x.rq.tg[13]),.int .u8 (x.rq.tg[14]),.int .u8 (x.rq.tg[15]),.int .u8 (x.rq.tg[16]),.int .u8 (x.rq.tg[17]),.int .u8 (x.rq.tg[18]),.int .u8 (x.rq.tg[19]),.int .u8 (x.rq.tg[20]),.int .u8 (x.rq.tg[21]),.int .u8 (x.rq.tg[22]),.int .u8 (x.rq.tg[23]),.int .u8 (x.rq.tg[24]),.int .u8 (x.rq.tg[25]),.int .u8 (x.rq.tg[26]),.int .u8 (x.rq.tg[27]),.int .u8 (x.rq.tg[28]),.int .u8 (x.rq.tg[29]),.int .u8 (x.rq.tg[30]),.int .u8 (x.rq.tg[31]),.slice x.qa x.ql.length x.qc,.int .u8 (x.dg[0]),.int .u8 (x.dg[1]),.int .u8 (x.dg[2]),.int .u8 (x.dg[3]),.int .u8 (x.dg[4]),.int .u8 (x.dg[5]),.int .u8 (x.dg[6]),.int .u8 (x.dg[7]),.int .u8 (x.dg[8]),.int .u8 (x.dg[9]),.int .u8 (x.dg[10]),.int .u8 (x.dg[11]),.int .u8 (x.dg[12]),.int .u8 (x.dg[13]),.int .u8 (x.dg[14]),.int .u8 (x.dg[15]),.int .u8 (x.dg[16]),.int .u8 (x.dg[17]),.int .u8 (x.dg[18]),.int .u8 (x.dg[19]),.int .u8 (x.dg[20]),.int .u8 (x.dg[21]),.int .u8 (x.dg[22]),.int .u8 (x.dg[23]),.int .u8 (x.dg[24]),.int .u8 (x.dg[25]),.int .u8 (x.dg[26]),.int .u8 (x.dg[27]),.int .u8 (x.dg[28]),.int .u8 (x.dg[29]),.int .u8 (x.dg[30]),.int .u8 (x.dg[31])]
abbrev dBd:TBd:=⟨0,0,0,dRq,none,0,[],dD32⟩
structure TMs where
 og:Int
 nr:Int
 dp:VecD
 bd:TBd
 tg:D32
def TMs.cells (x:TMs):Array Value:=#[.int .i64 x.og,.int .u64 x.nr,.int .u64 (x.dp[0]),.int .u64 (x.dp[1]),.int .u64 (x.dp[2]),.int .u64 (x.dp[3]),.int .u64 (x.dp[4]),.int .u64 (x.dp[5]),.int .u64 (x.dp[6]),.int .u64 (x.dp[7]),.int .u64 (x.dp[8]),.int .u64 (x.dp[9]),.int .u64 (x.dp[10]),.int .u8 x.bd.kd,.int .u64 x.bd.vw,.int .u64 x.bd.k,.int .i64 x.bd.rq.cl,.int .u64 x.bd.rq.tm,.int .u8 x.bd.rq.op.kd,.string x.bd.rq.op.ky,.string x.bd.rq.op.va,.string x.bd.rq.op.ol,.string x.bd.rq.op.tx,.int .u64 x.bd.rq.op.am,.int .u8 (x.bd.rq.tg[0]),.int .u8 (x.bd.rq.tg[1]),.int .u8 (x.bd.rq.tg[2]),.int .u8 (x.bd.rq.tg[3]),.int .u8 (x.bd.rq.tg[4]),.int .u8 (x.bd.rq.tg[5]),.int .u8 (x.bd.rq.tg[6]),.int .u8 (x.bd.rq.tg[7]),.int .u8 (x.bd.rq.tg[8]),.int .u8 (x.bd.rq.tg[9]),.int .u8 (x.bd.rq.tg[10]),.int .u8 (x.bd.rq.tg[11]),.int .u8 (x.bd.rq.tg[12]),.int .u8 (x.bd.rq.tg[13]),.int .u8 (x.bd.rq.tg[14]),.int .u8 (x.bd.rq.tg[15]),.int .u8 (x.bd.rq.tg[16]),.int .u8 (x.bd.rq.tg[17]),.int .u8 (x.bd.rq.tg[18]),.int .u8 (x.bd.rq.tg[19]),.int .u8 (x.bd.rq.tg[20]),.int .u8 (x.bd.rq.tg[21]),.int .u8 (x.bd.rq.tg[22]),.int .u8 (x.bd.rq.tg[23]),.int .u8 (x.bd.rq.tg[24]),.int .u8 (x.bd.rq.tg[25]),.int .u8 (x.bd.rq.tg[26]),.int .u8 (x.bd.rq.tg[27]),.int .u8 (x.bd.rq.tg[28]),.int .u8 (x.bd.rq.tg[29]),.int .u8 (x.bd.rq.tg[30]),.int .u8 (x.bd.rq.tg[31]),.slice x.bd.qa x.bd.ql.length x.bd.qc,.int .u8 (x.bd.dg[0]),.int .u8 (x.bd.dg[1]),.int .u8 (x.bd.dg[2]),.int .u8 (x.bd.dg[3]),.int .u8 (x.bd.dg[4]),.int .u8 (x.bd.dg[5]),.int .u8 (x.bd.dg[6]),.int .u8 (x.bd.dg[7]),.int .u8 (x.bd.dg[8]),.int .u8 (x.bd.dg[9]),.int .u8 (x.bd.dg[10]),.int .u8 (x.bd.dg[11]),.int .u8 (x.bd.dg[12]),.int .u8 (x.bd.dg[13]),.int .u8 (x.bd.dg[14]),.int .u8 (x.bd.dg[15]),.int .u8 (x.bd.dg[16]),.int .u8 (x.bd.dg[17]),.int .u8 (x.bd.dg[18]),.int .u8 (x.bd.dg[19]),.int .u8 (x.bd.dg[20]),.int .u8 (x.bd.dg[21]),.int .u8 (x.bd.dg[22]),.int .u8 (x.bd.dg[23]),.int .u8 (x.bd.dg[24]),.int .u8 (x.bd.dg[25]),.int .u8 (x.bd.dg[26]),.int .u8 (x.bd.dg[27]),.int .u8 (x.bd.dg[28]),.int .u8 (x.bd.dg[29]),.int .u8 (x.bd.dg[30]),.int .u8 (x.bd.dg[31]),.int .u8 (x.tg[0]),.int .u8 (x.tg[1]),.int .u8 (x.tg[2]),.int .u8 (x.tg[3]),.int .u8 (x.tg[4]),.int .u8 (x.tg[5]),.int .u8 (x.tg[6]),.int .u8 (x.tg[7]),.int .u8 (x.tg[8]),.int .u8 (x.tg[9]),.int .u8 (x.tg[10]),.int .u8 (x.tg[11]),.int .u8 (x.tg[12]),.int .u8 (x.tg[13]),.int .u8 (x.tg[14]),.int .u8 (x.tg[15]),.int .u8 (x.tg[16]),.int .u8 (x.tg[17]),.int .u8 (x.tg[18]),.int .u8 (x.tg[19]),.int .u8 (x.tg[20]),.int .u8 (x.tg[21]),.int .u8 (x.tg[22]),.int .u8 (x.tg[23]),.int .u8 (x.tg[24]),.int .u8 (x.tg[25]),.int .u8 (x.tg[26]),.int .u8 (x.tg[27]),.int .u8 (x.tg[28]),.int .u8 (x.tg[29]),.int .u8 (x.tg[30]),.int .u8 (x.tg[31])]
abbrev dMs:TMs:=⟨0,0,dVc,dBd,dD32⟩
theorem dMsF:CellF TMs.cells 121:=⟨fun _=>rfl,fun _=>rfl⟩
structure TPk where
 fr:Int
 tw:Int
 kn:VecD
 ma:Option Addr
 mc:Nat
 ml:List TMs
def TPk.cells (x:TPk):Array Value:=#[.int .i64 x.fr,.int .i64 x.tw,.int .u64 (x.kn[0]),.int .u64 (x.kn[1]),.int .u64 (x.kn[2]),.int .u64 (x.kn[3]),.int .u64 (x.kn[4]),.int .u64 (x.kn[5]),.int .u64 (x.kn[6]),.int .u64 (x.kn[7]),.int .u64 (x.kn[8]),.int .u64 (x.kn[9]),.int .u64 (x.kn[10]),.slice x.ma x.ml.length x.mc]
abbrev dPk:TPk:=⟨0,0,dVc,none,0,[]⟩
structure TSt where
 dw:Int
 cl:Int
 wh:Int
 j:Int
 k:Int
 n:Int
 op:TOp
 bd:TBd
 pk:TPk
 tm:Int
 re:TRe
 at_:Int
 pa:Option Addr
 pc:Nat
 pl:List Int
def TSt.cells (x:TSt):Array Value:=#[.int .u8 x.dw,.int .i64 x.cl,.int .i64 x.wh,.int .i64 x.j,.int .i64 x.k,.int .i64 x.n,.int .u8 x.op.kd,.string x.op.ky,.string x.op.va,.string x.op.ol,.string x.op.tx,.int .u64 x.op.am,.int .u8 x.bd.kd,.int .u64 x.bd.vw,.int .u64 x.bd.k,.int .i64 x.bd.rq.cl,.int .u64 x.bd.rq.tm,.int .u8 x.bd.rq.op.kd,.string x.bd.rq.op.ky,.string x.bd.rq.op.va,.string x.bd.rq.op.ol,.string x.bd.rq.op.tx,.int .u64 x.bd.rq.op.am,.int .u8 (x.bd.rq.tg[0]),.int .u8 (x.bd.rq.tg[1]),.int .u8 (x.bd.rq.tg[2]),.int .u8 (x.bd.rq.tg[3]),.int .u8 (x.bd.rq.tg[4]),.int .u8 (x.bd.rq.tg[5]),.int .u8 (x.bd.rq.tg[6]),.int .u8 (x.bd.rq.tg[7]),.int .u8 (x.bd.rq.tg[8]),.int .u8 (x.bd.rq.tg[9]),.int .u8 (x.bd.rq.tg[10]),.int .u8 (x.bd.rq.tg[11]),.int .u8 (x.bd.rq.tg[12]),.int .u8 (x.bd.rq.tg[13]),.int .u8 (x.bd.rq.tg[14]),.int .u8 (x.bd.rq.tg[15]),.int .u8 (x.bd.rq.tg[16]),.int .u8 (x.bd.rq.tg[17]),.int .u8 (x.bd.rq.tg[18]),.int .u8 (x.bd.rq.tg[19]),.int .u8 (x.bd.rq.tg[20]),.int .u8 (x.bd.rq.tg[21]),.int .u8 (x.bd.rq.tg[22]),.int .u8 (x.bd.rq.tg[23]),.int .u8 (x.bd.rq.tg[24]),.int .u8 (x.bd.rq.tg[25]),.int .u8 (x.bd.rq.tg[26]),.int .u8 (x.bd.rq.tg[27]),.int .u8 (x.bd.rq.tg[28]),.int .u8 (x.bd.rq.tg[29]),.int .u8 (x.bd.rq.tg[30]),.int .u8 (x.bd.rq.tg[31]),.slice x.bd.qa x.bd.ql.length x.bd.qc,.int .u8 (x.bd.dg[0]),.int .u8 (x.bd.dg[1]),.int .u8 (x.bd.dg[2]),.int .u8 (x.bd.dg[3]),.int .u8 (x.bd.dg[4]),.int .u8 (x.bd.dg[5]),.int .u8 (x.bd.dg[6]),.int .u8 (x.bd.dg[7]),.int .u8 (x.bd.dg[8]),.int .u8 (x.bd.dg[9]),.int .u8 (x.bd.dg[10]),.int .u8 (x.bd.dg[11]),.int .u8 (x.bd.dg[12]),.int .u8 (x.bd.dg[13]),.int .u8 (x.bd.dg[14]),.int .u8 (x.bd.dg[15]),.int .u8 (x.bd.dg[16]),.int .u8 (x.bd.dg[17]),.int .u8 (x.bd.dg[18]),.int .u8 (x.bd.dg[19]),.int .u8 (x.bd.dg[20]),.int .u8 (x.bd.dg[21]),.int .u8 (x.bd.dg[22]),.int .u8 (x.bd.dg[23]),.int .u8 (x.bd.dg[24]),.int .u8 (x.bd.dg[25]),.int .u8 (x.bd.dg[26]),.int .u8 (x.bd.dg[27]),.int .u8 (x.bd.dg[28]),.int .u8 (x.bd.dg[29]),.int .u8 (x.bd.dg[30]),.int .u8 (x.bd.dg[31]),.int .i64 x.pk.fr,.int .i64 x.pk.tw,.int .u64 (x.pk.kn[0]),.int .u64 (x.pk.kn[1]),.int .u64 (x.pk.kn[2]),.int .u64 (x.pk.kn[3]),.int .u64 (x.pk.kn[4]),.int .u64 (x.pk.kn[5]),.int .u64 (x.pk.kn[6]),.int .u64 (x.pk.kn[7]),.int .u64 (x.pk.kn[8]),.int .u64 (x.pk.kn[9]),.int .u64 (x.pk.kn[10]),.slice x.pk.ma x.pk.ml.length x.pk.mc,.int .u64 x.tm,.int .i64 x.re.er,.string x.re.vl,.int .u64 x.at_,.slice x.pa x.pl.length x.pc]
abbrev dSt:TSt:=⟨0,0,0,0,0,0,dOp,dBd,dPk,0,dRe,0,none,0,[]⟩
theorem dStF:CellF TSt.cells 107:=⟨fun _=>rfl,fun _=>rfl⟩
theorem digEq (a b:D32):eqFlat Tryz.prog 2 32 (.agg (D32.cells a)) (.agg (D32.cells b))=decide (a=b):=by
 have h:eqFlat Tryz.prog 2 32 (.agg (D32.cells a)) (.agg (D32.cells b))=D32.eqb a b:=by kernel_rfl
 rw [h,D32.eqb_eq]
theorem vecEq (a b:VecD):eqFlat Tryz.prog 2 39 (.agg (VecD.cells a)) (.agg (VecD.cells b))=decide (a=b):=by
 have h:eqFlat Tryz.prog 2 39 (.agg (VecD.cells a)) (.agg (VecD.cells b))=VecD.eqb a b:=by kernel_rfl
 rw [h,VecD.eqb_eq]
theorem prEq (a b:TPr):eqFlat Tryz.prog 2 143 (.agg a.cells) (.agg b.cells)=decide (a=b):=by
 have h:eqFlat Tryz.prog 2 143 (.agg a.cells) (.agg b.cells)=(a.rp == b.rp && (a.nm == b.nm && true)):=by kernel_rfl
 rw [h,ib,ib,Bool.and_true]
 obtain⟨d,e⟩:=a
 obtain⟨f,i⟩:=b
 simp only [TPr.mk.injEq,Bool.decide_and]
theorem opEq (a b:TOp):eqFlat Tryz.prog 2 31 (.agg a.cells) (.agg b.cells)=decide (a=b):=by
 have h:eqFlat Tryz.prog 2 31 (.agg a.cells) (.agg b.cells)=(a.kd == b.kd && (a.ky.toList == b.ky.toList && (a.va.toList == b.va.toList && (a.ol.toList == b.ol.toList && (a.tx.toList == b.tx.toList && (a.am == b.am && true)))))):=by kernel_rfl
 rw [h,ib,strEq,strEq,strEq,strEq,ib,Bool.and_true]
 obtain⟨d,e,f,i,o,q⟩:=a
 obtain⟨u,w,x,z,b4,b5⟩:=b
 simp only [TOp.mk.injEq,Bool.decide_and]
theorem rqEq (a b:TRq):eqFlat Tryz.prog 3 34 (.agg a.cells) (.agg b.cells)=decide (a=b):=by
 have h:eqFlat Tryz.prog 3 34 (.agg a.cells) (.agg b.cells)=(a.cl == b.cl && (a.tm == b.tm && (eqFlat Tryz.prog 2 31 (.agg a.op.cells) (.agg b.op.cells) && (D32.eqb a.tg b.tg && true)))):=by kernel_rfl
 rw [h,ib,ib,opEq,D32.eqb_eq,Bool.and_true]
 obtain⟨d,e,f,i⟩:=a
 obtain⟨o,q,u,w⟩:=b
 simp only [TRq.mk.injEq,Bool.decide_and]
theorem prsOK:ElemOK Tryz.prog 35 143 2 16:=⟨by kernel_rfl,⟨Tryz.t143,.agg (TPr.cells dPr),by kernel_rfl,by kernel_rfl,by kernel_rfl,by kernel_rfl,by kernel_rfl⟩,by decide⟩
theorem mssOK2:ElemOK Tryz.prog 40 63 121 344:=⟨by kernel_rfl,⟨Tryz.t63,.agg (TMs.cells dMs),by kernel_rfl,by kernel_rfl,by kernel_rfl,by kernel_rfl,by kernel_rfl⟩,by decide⟩
theorem byte_flatL (l:List Int):(l.flatMap fun x=>(byteC x).toList)=l.map (Value.int .u8):=by
 induction l with
 | nil=>rfl
 | cons a l ih=>simp only [List.flatMap_cons,List.map_cons,ih];rfl
theorem byte_flat (l:List Int):(arrCells byteC l)=(l.map (Value.int .u8)).toArray:=by
 apply Array.ext'
 simp only [arrCells]
 exact byte_flatL l
def vecL (l:List Int):D32:=⟨((l++List.replicate 32 0).take 32).toArray,by rw [List.size_toArray,List.length_take,lA,List.length_replicate];omega⟩
theorem vecL_toList (v:D32):vecL v.toList=v:=by
 have e:(v.toList++List.replicate 32 0).take 32=v.toList:=List.take_left' (D32.len v)
 apply Vector.toArray_inj.1
 show((v.toList++List.replicate 32 0).take 32).toArray=v.toArray
 rw [e]
 simp [Vector.toList]
end
section
variable {w0 w : World} {L : List Asn} {ad : Option Addr} {c : Nat}
def hf (n:Int):List Int:=[IntKind.u8.wrap (iShr .u16 n 8),IntKind.u8.wrap (iShr .u16 n 0)]
theorem hf_app {l:List Int}{n:Int}:(l++([(IntKind.u8.wrap (iShr .u16 n 8):Int)]))++([(IntKind.u8.wrap (iShr .u16 n 0):Int)])=l++hf n:=by rw [List.append_assoc];rfl
theorem hf_length (n:Int):(hf n).length=2:=rfl
theorem putH_spec (l) (n) (hl:l.length≤900000) (hn:0≤n∧n<65536) (hs:St w0 ((Sl ad c 5 1 byteC l)::L) w):Cs Tryz.prog 109 #[.slice ad l.length c,.int .u16 n,.int .i64 2] w fun rv w'=>∃ ao co,rv=.slice ao ((l++hf n).length) co∧St w0 ((Sl ao co 5 1 byteC (l++hf n))::L) w':=by
 refine Zen Tryz.func109 Tryz.ntmps109 (En (Lq (Ls (Lg [1,3] (Lw (Zqa (f:=72) (args:=#[.slice ad l.length c]) Tryz.call72 (clone_spec2 l (by first|omega|(simp only [lA,lC,lN,wd_length] at *;omega)) hs) ?_))))))
 rintro v4 w5 ⟨d,e,rfl,i⟩
 refine Lo (Lw (Zqa (f:=125) (args:=#[.slice d l.length e,.int .i64 2]) Tryz.call125 (grow_spec2 l 2 (by first|omega|(simp only [lA,lC,lN,wd_length] at *;omega)) (by omega) i) ?_))
 rintro v9 a4 ⟨a5,a6,rfl,o⟩
 refine Lz (Ls (Lq (Lb (Dz (GoC.unroll 3 (En (Ls (Lq (LT (Lk (Lt (Ls (Lb (Dz (Zgj [6,7] (Hg 4 (.shift (iShr .u16 n 8)) [.prop ((0:Int)≤8∧Int.fdiv n (2 ^ (min (Int.toNat 8) (IntKind.bits .u16)))=iShr .u16 n 8)] (okp ⟨(by first|omega|exact uwrap_nn rfl _),rfl⟩ ok0) Hz) (Zll bytesOK byteF [(IntKind.u8.wrap (iShr .u16 n 8):Int)] o fun a7 a8 q=>Lo (Dz (Zap bytesOK byteF (0:Int) (q.pl 1) (by simp only [lA,lC,lN,List.length_map] at *;omega) fun a9 b0 b1 x=>Lo (Lud (Lm (Lt (La (Dz (GoQ.again (En (Ls (Lq (LT (Lk (Lt (Ls (Lb (Dz (Zgj [6,7] (Hg 4 (.shift (iShr .u16 n 0)) [.prop ((0:Int)≤0∧Int.fdiv n (2 ^ (min (Int.toNat 0) (IntKind.bits .u16)))=iShr .u16 n 0)] (okp ⟨(by first|omega|exact uwrap_nn rfl _),rfl⟩ ok0) Hz) (Zll bytesOK byteF [(IntKind.u8.wrap (iShr .u16 n 0):Int)] x fun b2 b3 z=>Lo (Dz (Zap bytesOK byteF (0:Int) (z.pl 1) (by simp only [lA,lC,lN,List.length_map] at *;omega) fun a b b4 a1=>Lo (Lud (Lm (Lt (La (Dz (GoQ.again (En (Ls (Lq (LF (Lx (LsC (LsL (Lh (Lt (Lq (Le (Dz (Zq1 (v:=.slice a (((l++([(IntKind.u8.wrap (iShr .u16 n 8):Int)]))++([(IntKind.u8.wrap (iShr .u16 n 0):Int)])).length) b) ?_))))))))))))))))))))))))))))))))))))))))))))))))))))))))
 have a2:=(((a1.pl 0).pl 2).pl 2)
 exact⟨a,b,by rw [← hf_app],by rw [← hf_app];exact(a2.dr 2)⟩
theorem half_spec (l) (n) (hl:l.length≤900000) (hn:0≤n∧n<65536) (hs:St w0 ((Sl ad c 5 1 byteC l)::L) w):Cs Tryz.prog 84 #[.slice ad l.length c,.int .u16 n] w fun rv w'=>∃ ao co,rv=.slice ao ((l++hf n).length) co∧St w0 ((Sl ao co 5 1 byteC (l++hf n))::L) w':=by
 refine Zen Tryz.func84 Tryz.ntmps84 (En (Lq (Ls (Lg [2] (Lw (Zc (putH_spec l n (by first|assumption|omega) (by first|assumption|omega) hs) ?_))))))
 rintro e f ⟨a,b,rfl,d⟩
 exact Lz (Le (Dz (Zq1 (v:=.slice a ((l++hf n).length) b) ⟨a,b,rfl,d⟩)))
def tx (s:ByteArray):List Int:=hf (s.size:Nat)++strB s
theorem tx_length (s:ByteArray):(tx s).length=2+s.size:=by rw [tx,lA,hf_length,strB_length]
theorem text_spec (l) (s) (hl:l.length≤800000) (hsz:s.size<65536) (hs:St w0 ((Sl ad c 5 1 byteC l)::L) w):Cs Tryz.prog 60 #[.slice ad l.length c,.string s] w fun rv w'=>∃ ao co,rv=.tuple #[.slice ao ((l++tx s).length) co,.int .i64 0]∧St w0 ((Sl ao co 5 1 byteC (l++tx s))::L) w':=by
 refine Zen Tryz.func60 Tryz.ntmps60 (En (Lq (Ls (Lq (Dz (Zi ((s.size:Int) ≥ 65536) (fun d=>?_) (fun d=>?_)))))))
 ·exfalso;omega
 ·refine Zk (Zt (Zs (Zgj [4,6] (Hg 3 (.as_ (.int .u16 (s.size:Nat)) (.gen [])) [.prop (Value.int .u16 (IntKind.u16.wrap (s.size:Nat))=Value.int .u16 (s.size:Nat))] (okp (u16ok (by omega) (by omega)) ok0) Hz) (Zc (half_spec l (s.size:Nat) (by omega) (by omega) hs) ?_))))
  rintro x z ⟨e,i,rfl,o⟩
  exact Lo (Lw (GoR.appendStr rfl (by kernel_rfl) bytesOK (u:=9) (by kernel_rfl) (f:=byteC) rfl (ad:=e) (c:=i) (xs:=l++hf (s.size:Nat)) (s:=s) (by kernel_rfl) o (by simp only [lA,hf_length];omega) fun a b w7 q=>Lz (Le (Dz (Zq2 (v:=.slice a (((l++hf (s.size:Nat))++strB s).length) b) (v':=.int .i64 0) ⟨a,b,by rw [(show(l++hf (s.size:Nat))++strB s=l++tx s from List.append_assoc ..)],by rw [← (show(l++hf (s.size:Nat))++strB s=l++tx s from List.append_assoc ..)];exact q⟩)))))
theorem numB_hf {v:Int}(h:0≤v∧v<65536):numB (hf v)=v:=by
 obtain⟨n,rfl⟩:∃ n:Nat,v=n:=⟨v.toNat,by omega⟩
 have b:IntKind.u8.wrap (iShr .u16 (n:Int) 8)=((n / 256:Nat):Int):=by
  show((n:Int).fdiv (2 ^ (min (Int.toNat (8:Int)) 16))) % 256=_
  show((n:Int).fdiv 256) % 256=_
  rw [Int.fdiv_eq_ediv_of_nonneg _ (by decide)]
  omega
 have d:IntKind.u8.wrap (iShr .u16 (n:Int) 0)=((n % 256:Nat):Int):=by
  show((n:Int).fdiv (2 ^ (min (Int.toNat (0:Int)) 16))) % 256=_
  show((n:Int).fdiv 1) % 256=_
  rw [Int.fdiv_eq_ediv_of_nonneg _ (by decide)]
  omega
 rw [hf,b,d]
 show iOr .u64 (iShl .u64 (iOr .u64 (iShl .u64 0 8) (IntKind.u64.wrap ((n / 256:Nat):Int))) 8) (IntKind.u64.wrap ((n % 256:Nat):Int))=_
 have e:iOr .u64 (iShl .u64 0 8) ((n / 256:Nat):Int)=((n / 256:Nat):Int):=by
  rw [or8 (a:=0) (by omega) (by omega) (by omega)]
  omega
 rw [u64_id (by omega) (by omega),u64_id (by omega) (by omega),e,or8 (by omega) (by omega) (by omega)]
 omega
theorem u16_id {v:Int}(h:0≤v∧v<65536):IntKind.u16.wrap v=v:=by
 show v % 65536=v
 omega
theorem numB_one {v:Int}(h:0≤v∧v<256):numB [v]=v:=by
 show iOr .u64 (iShl .u64 0 8) (IntKind.u64.wrap v)=v
 rw [u64_id (by omega) (by omega),or8 (by omega) h (by omega)]
 omega
theorem u8_id {v:Int}(h:0≤v∧v<256):IntKind.u8.wrap v=v:=by
 show v % 256=v
 omega
end
section
variable {w0 w : World} {L : List Asn} {ad : Option Addr} {c : Nat} {az : Option Addr} {cz : Nat}
abbrev CS:=List Int×Bool
def tk (n:Nat) (s:CS):List Int×CS:=if s.2=true∨s.1.length<n then ([],(s.1,true)) else (s.1.take n,(s.1.drop n,false))
def numP (n:Nat) (s:CS):Int×CS:=(numB (tk n s).1,(tk n s).2)
def byteP (s:CS):Int×CS:=(IntKind.u8.wrap (numB (tk 1 s).1),(tk 1 s).2)
def halfP (s:CS):Nat×CS:=((IntKind.u16.wrap (numB (tk 2 s).1)).toNat,(tk 2 s).2)
def wordP (s:CS):Int×CS:=numP 8 s
def textP (most:Int) (s:CS):ByteArray×CS :=
 let h:=halfP s
 let t:=tk h.1 (h.2.1,h.2.2 || (decide ((h.1:Int)>most)))
 if t.2.2=true then (⟨#[]⟩,(s.1,true)) else (strOf t.1,t.2)
def Som (ad:Option Addr) (c:Nat):Prop:=(∃ b off,ad=some ⟨b,off,none⟩)∨(ad=none∧c=0)
theorem Som.nn (h:Som ad c) (e:ad=none):c=0:=by
 rcases h with⟨b,o,h⟩|h
 ·rw [e] at h;cases h
 ·exact h.2
theorem Som.sub {c n:Nat}(h:Som ad c):Som (subAd ad c n 1) (c-n):=by
 rcases h with h|⟨rfl,rfl⟩
 ·exact .inl (subAd_some h)
 ·refine .inr ⟨?_,by omega⟩
  unfold subAd
  split<;>rfl
theorem own_som {α:Type}{w0 w:World}{L:List Asn}{ad:Option Addr}{c size:Nat}{e:TypeId}{f:α→Array Value}{l:List α}(hs:St w0 L w) (i:Nat) (hi:L[i]?=some (Sl ad c e size f l)):Som ad c:=by
 have h:w.ownsRow 0 e size (.slice ad l.length c) l.length (l.flatMap fun x=>(f x).toList):=hs.at_ i hi
 rcases h.2 with⟨a,b⟩|⟨g,cap,cur,hv,_⟩
 ·simp only [Value.slice.injEq] at a
  exact .inr ⟨a.1,a.2.2⟩
 ·simp only [Value.slice.injEq] at hv
  exact .inl ⟨g,0,hv.1⟩
structure CutOK (Q:Asn) (az:Option Addr) (r:List Int) (cz:Nat):Prop where
 cap:r.length≤cz
 som:Som az cz
 row:∀ w,Q.holds w→RowsAt w az r.length 1 (fun k=>byteC (r.getD k (0:Int)))
 byt:∀ z∈r,0≤z∧z<256
 len:r.length≤1000000
theorem CutOK.drop {Q:Asn}{az:Option Addr}{r:List Int}{cz:Nat}(h:CutOK Q az r cz){n:Nat}(hn:n≤r.length):CutOK Q (subAd az cz n 1) (r.drop n) (cz-n) :=
 ⟨by have:=h.cap;rw [List.length_drop];omega,h.som.sub,fun w hw=>RowsAt.dropL (h.row w hw) h.cap hn,fun z hz=>h.byt z (List.mem_of_mem_drop hz),by have:=h.len;rw [List.length_drop];omega⟩
theorem tk_bad {n:Nat}{r:List Int}{sp:Bool}(h:sp=true∨r.length<n):tk n (r,sp)=([],(r,true)):=if_pos h
theorem tk_ok {n:Nat}{r:List Int}{sp:Bool}(h1:sp=false) (h2:n≤r.length):tk n (r,sp)=(r.take n,(r.drop n,false)):=if_neg (by rw [h1];simp;omega)
theorem numB_rng:∀ (l:List Int),0≤numB l∧numB l<18446744073709551616:=by
 intro l
 rcases List.eq_nil_or_concat l with rfl|⟨q,x,rfl⟩
 ·exact⟨Int.le_refl 0,by decide⟩
 ·have e:numB (q++[x])=iOr .u64 (iShl .u64 (numB q) 8) (IntKind.u64.wrap x):=by simp only [numB,List.foldl_append,List.foldl_cons,List.foldl_nil]
  rw [List.concat_eq_append,e]
  show 0≤IntKind.u64.wrap _∧IntKind.u64.wrap _<_
  exact⟨Int.emod_nonneg _ (by decide),Int.emod_lt_of_pos _ (by decide)⟩
theorem take_spec (Q) (r) (sp) (n) (hQ:∀ w,St w0 L w→Q.holds w) (hq:CutOK Q az r cz) (hs:St w0 ((Cel c #[.slice az r.length cz,.bool sp] 150)::L) w):Cs Tryz.prog 73 #[zP c 0,.int .i64 (n:Nat)] w fun rv w'=>(rv=.slice az ((r.take n).length) cz∧sp=false∧n≤r.length∧St w0 ((Cel c #[.slice (subAd az cz n 1) ((r.drop n).length) (cz-n),.bool false] 150)::L) w')∨(rv=.slice none 0 0∧(sp=true∨r.length<n)∧St w0 ((Cel c #[.slice az r.length cz,.bool true] 150)::L) w'):=by
 refine Zen Tryz.func73 Tryz.ntmps73 (Zs ?_)
 have hcap:=hq.cap
 refine En (La (Lt (Ls (Lq (LF (Lk (Lt (Ls (Ls (Lg [20] (Dz (Zpj 0 6 (Hl 4 0 1 hs Hz) (Zsq 13 sp (fun d=>?_) (fun d=>?_))))))))))))))
 ·exact En (Lw (Zu 0 1 #[.slice az r.length cz,.bool true] hs fun q f=>Lo (Ld (Lt (Ls (Dz (Zaj (Hl 3 0 1 f Hz) (En (Lt (LT (Lq (Le (Ly (Dz (Zq1 (v:=.slice none 0 0) (.inr (⟨rfl,(.inl d),f⟩)))))))))))))))))
 ·refine Zr 6 4 [] (Zsd 17 ((n:Int)<0) (fun o=>?_) (fun o=>?_))
  ·exfalso;omega
  ·refine Zj (Hl 14 0 0 hs Hz) (Zu 0 1 #[.slice az r.length cz,.bool (decide ((n:Int)>(r.length:Nat)))] hs fun u b=>Lo (Ld (Lt (Ls (Dz (Zaj (Hl 3 0 1 b Hz) (Zt (Zi ((n:Int)>(r.length:Nat)) (fun e=>?_) (fun e=>?_)))))))))
   ·refine En (Lq (Le (Ly (Dz (Zq1 (v:=.slice none 0 0) ?_)))))
    rw [(decide_eq_true e)] at b
    exact .inr (⟨rfl,(.inr (by omega)),b⟩)
   ·refine Zk (Zt (Zs (Zaj (Hl 3 0 0 b (Hg 5 (.as_ (.slice az (((r).take n).length) cz) (.sub 0 n)) [.prop ((n:Int)=(n:Int)),.prop (((none:Option Operand)=none→(0:Nat)=0)∧(some (Operand.tmp 36)=none→(n:Nat)=r.length)∧(0:Nat)≤n∧(n:Nat)≤cz),.prop (Value.slice (if cz=0 then az else (az:Option Addr).map (fun a=>a.add (0*1))) (n-0) (cz-0)=Value.slice az (((r).take n).length) cz)] (okp (by omega) (okp ⟨(by first|(intro _;rfl)|(intro hc;cases hc)),(by first|(intro _;rfl)|(intro hc;cases hc)),(by omega),(by omega)⟩ (okp (subSl0 (by simp only [List.length_take,List.length_drop]<;>omega)) ok0))) Hz)) (Zt (Zs (Zgj [9] (Hl 4 0 0 b (Hg 6 (.as_ (.slice (subAd az cz n 1) (((r).drop n).length) (cz-n)) (.sub n r.length)) [.prop ((n:Int)=(n:Int)),.prop ((some (Operand.tmp 43)=none→(n:Nat)=0)∧((none:Option Operand)=none→(r.length:Nat)=r.length)∧(n:Nat)≤r.length∧(r.length:Nat)≤cz),.prop (Value.slice (if cz=n then az else (az:Option Addr).map (fun a=>a.add (n*1))) (r.length-n) (cz-n)=Value.slice (subAd az cz n 1) (((r).drop n).length) (cz-n))] (okp (by omega) (okp ⟨(by first|(intro _;rfl)|(intro hc;cases hc)),(by first|(intro _;rfl)|(intro hc;cases hc)),(by omega),(by omega)⟩ (okp (subSl (by simp only [List.length_take,List.length_drop]<;>omega)) ok0))) Hz)) (Zu 0 0 #[.slice (subAd az cz n 1) (((r).drop n).length) (cz-n),.bool (decide ((n:Int)>(r.length:Nat)))] b fun x i=>Lo (Ld (Lt (Lq (Le (Dz (Zq1 (v:=.slice az (((r).take n).length) cz) ?_)))))))))))))
    rw [(decide_eq_false e)] at i
    exact .inl ⟨rfl,d,(by omega),i⟩
theorem sum_spec (Q) (r) (sp) (n) (hQ:∀ w,St w0 L w→Q.holds w) (hq:CutOK Q az r cz) (hs:St w0 ((Cel c #[.slice az r.length cz,.bool sp] 150)::L) w):Cs Tryz.prog 74 #[.func (.func 73) #[zP c 0] #[],.int .i64 (n:Nat)] w fun rv w'=>∃ vv2 rr2 sp2 az2 cz2,rv=.int .u64 vv2∧numP n (r,sp)=(vv2,(rr2,sp2))∧CutOK Q az2 rr2 cz2∧St w0 ((Cel c #[.slice az2 rr2.length cz2,.bool sp2] 150)::L) w':=by
 refine Zen Tryz.func74 Tryz.ntmps74 (Zs ?_)
 have hrl:=hq.len
 refine En (La (Lt (Ls (Ls (Lg [2] (Lw (Zc (take_spec Q r sp n (fun w h=>hQ w (h.drop 0)) (by first|assumption|omega) hs) ?_)))))))
 rintro x w7 (⟨rfl,f,b,i⟩|⟨rfl,o,q⟩)
 ·refine Lz (Lb (Dz (GoC.loop (T:=Nat×Int×(Option Addr)) (fun gg=>[(4,.int .u64 gg.2.1),(9,.slice gg.2.2 ((r.take n).length) cz),(10,.int .i64 ((r.take n).length:Nat)),(11,.int .i64 (gg.1:Nat))]) (fun gg w=>(gg.1≤(r.take n).length∧gg.2.1=numB ((r.take n).take gg.1)∧∀ w,St w0 L w→RowsAt w gg.2.2 (r.take n).length 1 (fun k=>byteC ((r.take n).getD k (0:Int))))∧St w0 ((Cel c #[.slice (subAd az cz n 1) ((r.drop n).length) (cz-n),.bool false] 150)::L) w) (fun gg=>(r.take n).length-gg.1) (0,0,az) [4,9,10,11] (by kernel_rfl) ⟨⟨Nat.zero_le _,rfl,fun w h=>RowsAt.takeL (hq.row w (hQ w h)) n b⟩,i⟩ ?_)))
  rintro⟨jj,z,aq⟩ w8 ⟨hp,a⟩
  dsimp only at hp a
  have hw:=hp.2.2
  have htl:(r.take n).length=n:=by rw [List.length_take];omega
  refine En (Lq (Ls (Dz (Zi ((jj:Int)<((r.take n).length:Nat)) (fun u=>?_) (fun u=>?_)))))
  ·obtain⟨d,e,rfl⟩:=RowsAt.isSome (hw _ (a.drop 1)) (by omega)
   exact Zk (Zt (Zs (Zb (Zs (Zaj (Hx 0 (jj:Int) ((r.take n).length:Int) d e 1 (Hg 1 (.gen [.int .u8 ((r.take n).getD jj (0:Int))]) [.cell ⟨d,e+(jj*1),none⟩ (.int .u8 ((r.take n).getD jj (0:Int)))] (okc (RowsAt.at0 (hw _ (a.drop 1)) (k:=jj) (by first|omega|(simp only [List.length_set];omega)|(simp only [List.length_set,lA,lC,lN];omega)) (j:=0) (by decide) (by kernel_rfl)) ok0) Hz)) (Zt (Zaj (Hg 1 (.shift (iShl .u64 z 8)) [.prop ((0:Int)≤8∧IntKind.u64.wrap (z*2 ^ (min (Int.toNat 8) (IntKind.bits .u64)))=iShl .u64 z 8)] (okp ⟨(by first|omega|exact uwrap_nn rfl _),rfl⟩ ok0) Hz) (Zm (Zt (Zaj (Hwi 0 ((jj:Nat)+1) Hz) (GoQ.back (jj+1,iOr .u64 (iShl .u64 z 8) (IntKind.u64.wrap ((r.take n).getD jj (0:Int))),some ⟨d,e,none⟩) [4,9,10,11] (by kernel_rfl) (by show(r.take n).length-(jj+1)<(r.take n).length-jj;omega) ⟨⟨by omega,by rw [numB_succ (by omega),← hp.2.1],hw⟩,a⟩)))))))))))
  ·have hke:jj=(r.take n).length:=by omega
   exact En (Lx (LsC (LsL (Lh (Lt (Lq (Le (Dz (Zq1 (v:=.int .u64 z) ⟨(numB (r.take n)),(r.drop n),false,(subAd az cz n 1),(cz-n),(by rw [hp.2.1,hke,List.take_length]),(show(numB (tk n (r,sp)).1,(tk n (r,sp)).2)=_ by rw [tk_ok f b]),(hq.drop b),a⟩)))))))))
 ·exact Lz (Lb (Dz (GoC.unroll 1 (En (Lq (Ls (LF (Lx (LsC (LsL (Lh (Lt (Lq (Le (Dz (Zq1 (v:=.int .u64 0) ⟨0,r,true,az,cz,rfl,(show(numB (tk n (r,sp)).1,(tk n (r,sp)).2)=_ by rw [tk_bad o];rfl),hq,q⟩))))))))))))))))
theorem wordP_rng {s:CS}{v:Int}{s2:CS}(h:wordP s=(v,s2)):0≤v∧v<18446744073709551616:=by
 have a:(wordP s).1=v:=by rw [h]
 rw [← a]
 exact numB_rng _
theorem byteP_rng {s:CS}{v:Int}{s2:CS}(h:byteP s=(v,s2)):0≤v∧v<256:=by
 have a:(byteP s).1=v:=by rw [h]
 rw [← a]
 show 0≤numB _ % 256∧numB _ % 256<256
 omega
theorem halfP_rng {s:CS}{v:Nat}{s2:CS}(h:halfP s=(v,s2)):v<65536:=by
 have a:(halfP s).1=v:=by rw [h]
 rw [← a]
 show(numB _ % 65536).toNat<65536
 omega
theorem cutWord_spec (Q) (r) (sp) (hQ:∀ w,St w0 L w→Q.holds w) (hq:CutOK Q az r cz) (hs:St w0 ((Cel c #[.slice az r.length cz,.bool sp] 150)::L) w):Cs Tryz.prog 79 #[zP c 0] w fun rv w'=>∃ vv2 rr2 sp2 az2 cz2,rv=.int .u64 vv2∧wordP (r,sp)=(vv2,(rr2,sp2))∧(0≤vv2∧vv2<18446744073709551616)∧CutOK Q az2 rr2 cz2∧St w0 ((Cel c #[.slice az2 rr2.length cz2,.bool sp2] 150)::L) w':=by
 refine Zen Tryz.func79 Tryz.ntmps79 (En (Lq (Lq (Ls (Lg [1] (Lw (Zc (sum_spec Q r sp 8 (fun w h=>hQ w (h.drop 0)) (by first|assumption|omega) hs) ?_)))))))
 rintro q u ⟨a,rr2,d,e,f,rfl,b,i,o⟩
 exact Lz (Le (Dz (Zq1 (v:=.int .u64 a) ⟨a,rr2,d,e,f,rfl,b,(wordP_rng b),i,o⟩)))
theorem cutByte_spec (Q) (r) (sp) (hQ:∀ w,St w0 L w→Q.holds w) (hq:CutOK Q az r cz) (hs:St w0 ((Cel c #[.slice az r.length cz,.bool sp] 150)::L) w):Cs Tryz.prog 45 #[zP c 0] w fun rv w'=>∃ vv2 rr2 sp2 az2 cz2,rv=.int .u8 vv2∧byteP (r,sp)=(vv2,(rr2,sp2))∧(0≤vv2∧vv2<256)∧CutOK Q az2 rr2 cz2∧St w0 ((Cel c #[.slice az2 rr2.length cz2,.bool sp2] 150)::L) w':=by
 refine Zen Tryz.func45 Tryz.ntmps45 (En (Lq (Lq (Ls (Lg [1] (Lw (Zc (sum_spec Q r sp 1 (fun w h=>hQ w (h.drop 0)) (by first|assumption|omega) hs) ?_)))))))
 rintro u x ⟨b,rr2,d,e,f,rfl,i,o,q⟩
 refine Lz (Le (Dz (Zq1 (v:=.int .u8 (IntKind.u8.wrap b)) ?_)))
 obtain⟨ha,hb⟩:numB (tk 1 (r,sp)).1=b∧(tk 1 (r,sp)).2=(rr2,d):=by
  have a:=i
  unfold numP at a
  exact Prod.mk.inj a
 have a:byteP (r,sp)=(IntKind.u8.wrap b,(rr2,d)):=by unfold byteP;rw [ha,hb]
 exact⟨(IntKind.u8.wrap b),rr2,d,e,f,rfl,a,(byteP_rng a),o,q⟩
theorem cutHalf_spec (Q) (r) (sp) (hQ:∀ w,St w0 L w→Q.holds w) (hq:CutOK Q az r cz) (hs:St w0 ((Cel c #[.slice az r.length cz,.bool sp] 150)::L) w):Cs Tryz.prog 78 #[zP c 0] w fun rv w'=>∃ nn2 rr2 sp2 az2 cz2,rv=.int .u16 (nn2:Nat)∧halfP (r,sp)=(nn2,(rr2,sp2))∧nn2<65536∧CutOK Q az2 rr2 cz2∧St w0 ((Cel c #[.slice az2 rr2.length cz2,.bool sp2] 150)::L) w':=by
 refine Zen Tryz.func78 Tryz.ntmps78 (En (Lq (Lq (Ls (Lg [1] (Lw (Zc (sum_spec Q r sp 2 (fun w h=>hQ w (h.drop 0)) (by first|assumption|omega) hs) ?_)))))))
 rintro x z ⟨a,rr2,d,e,f,rfl,i,o,q⟩
 refine Lz (Le (Dz (Zq1 (v:=.int .u16 (IntKind.u16.wrap a)) ?_)))
 obtain⟨ha,hb⟩:numB (tk 2 (r,sp)).1=a∧(tk 2 (r,sp)).2=(rr2,d):=by
  have b:=i
  unfold numP at b
  exact Prod.mk.inj b
 have b:halfP (r,sp)=((IntKind.u16.wrap a).toNat,(rr2,d)):=by unfold halfP;rw [ha,hb]
 have u:0≤IntKind.u16.wrap a:=Int.emod_nonneg _ (by decide)
 exact⟨(IntKind.u16.wrap a).toNat,rr2,d,e,f,(by rw [Int.toNat_of_nonneg u]),b,(halfP_rng b),o,q⟩
theorem cutOk_spec (r:List Int) (sp:Bool) (hs:St w0 ((Cel c #[.slice az r.length cz,.bool sp] 150)::L) w):Cs Tryz.prog 48 #[zP c 0] w fun rv w'=>rv=.bool (!sp)∧St w0 ((Cel c #[.slice az r.length cz,.bool sp] 150)::L) w':=by
 exact Zen Tryz.func48 Tryz.ntmps48 (En (Lq (Ls (Dz (Zaj (Hl 6 0 1 hs Hz) (Zt (Ze (Zq1 (v:=.bool (!sp)) ⟨rfl,hs⟩))))))))
theorem cutLeft_spec (r:List Int) (sp:Bool) (hs:St w0 ((Cel c #[.slice az r.length cz,.bool sp] 150)::L) w):Cs Tryz.prog 76 #[zP c 0] w fun rv w'=>rv=.int .i64 (r.length:Nat)∧St w0 ((Cel c #[.slice az r.length cz,.bool sp] 150)::L) w':=by
 exact Zen Tryz.func76 Tryz.ntmps76 (En (Lq (Ls (Lq (LF (Lk (Lt (Ls (Dz (Zaj (Hl 3 0 0 hs Hz) (Zt (Ze (Zq1 (v:=.int .i64 (r.length:Nat)) ⟨rfl,hs⟩)))))))))))))
end
section
variable {w0 w : World} {L : List Asn} {ad : Option Addr} {c : Nat} {az : Option Addr} {cz : Nat} {ay : Option Addr} {cy : Nat} {ax : Option Addr} {cx : Nat} {ab : Nat} {aoff : Nat} {ca : Nat}
theorem cloneR_spec {ac:Nat}(l) (hl:l.length≤1000000000) (hrow:Rw w0 L byteC 1 0 (some ⟨ab,aoff,none⟩) l) (hs:St w0 (L) w):Cs Tryz.prog 72 #[zL ab aoff l.length ac] w fun rv w'=>∃ ao co,rv=.slice ao l.length co∧St w0 ((Sl ao co 5 1 byteC l)::L) w':=by
 refine Zen Tryz.func72 Tryz.ntmps72 (En (Lq (Ls (Lq (LF (Lk (Lt (Ls (Lg [0,2] (Dz (GoR.sliceLit0 rfl (by kernel_rfl) (t:=22) (e:=5) (by kernel_rfl) (by kernel_rfl) (ti:=Tryz.t5) (by kernel_rfl) hs fun a o q u=>?_)))))))))))
 have b:St w0 ((Sl (some ⟨a,0,none⟩) 0 5 1 byteC ([]:List Int))::L) o:=St.slOf (l:=([]:List Int)) (f:=byteC) q u (byteF).size (by simp only [lC,lN,maxLen];omega) (by kernel_rfl)
 exact Lo (Lw (GoR.append rfl (by kernel_rfl) bytesOK byteF (ad:=some ⟨a,0,none⟩) (c:=0) (xs:=([]:List Int)) (ys:=l) (adx:=some ⟨ab,aoff,none⟩) (cx:=ac) (0:Int) (by kernel_rfl) b (hrow _ (b.drop 1)) (fun h=>nomatch h) (by simp only [lN];omega) (by simp only [lN];omega) fun d i z x=>Lz (Le (Dz (Zq1 (v:=.slice d ((l).length) i) ⟨d,i,(by simp),x⟩)))))
theorem cloneV_spec (l) (hl:l.length≤1000000000) (hsm:Som ad c) (hr:Rw w0 L byteC 1 0 ad l) (hs:St w0 L w) :
 Cs Tryz.prog 72 #[.slice ad l.length c] w fun rv w'=>∃ ao co,rv=.slice ao l.length co∧St w0 (Sl ao co 5 1 byteC l::L) w':=by
 rcases hsm with⟨b,off,rfl⟩|⟨rfl,rfl⟩
 ·exact cloneR_spec l hl hr hs
 ·have a:l=[]:=by
   cases l with
   | nil=>rfl
   | cons x q=>obtain⟨b,off,e⟩:=RowsAt.isSome (hr _ hs) (Nat.succ_pos _);cases e
  subst a
  refine Calls.ret (cloneN_spec hs) ?_
  rintro v d ⟨rfl,h⟩
  exact⟨none,0,rfl,St.slNil h 5 1 byteC⟩
theorem strB_strOf {l:List Int}(h:∀ z∈l,0≤z∧z<256):strB (strOf l)=l:=by
 unfold strOf strB
 simp only [List.map_map]
 conv=>rhs;rw [← List.map_id l]
 exact List.map_congr_left fun z hz=>u8of_toNat (h z hz).1 (h z hz).2
theorem textP_bad {most:Int}{s:CS}{n:Nat}{r1:List Int}{p1:Bool}(h:halfP s=(n,(r1,p1))) (hb:(p1 || decide ((n:Int)>most))=true∨r1.length<n):textP most s=(⟨#[]⟩,(s.1,true)):=by
 unfold textP
 rw [h]
 simp only []
 rw [tk_bad hb]
 rfl
theorem textP_ok {most:Int}{s:CS}{n:Nat}{r1:List Int}(h:halfP s=(n,(r1,false))) (hm:(n:Int)≤most) (hn:n≤r1.length):textP most s=(strOf (r1.take n),(r1.drop n,false)):=by
 unfold textP
 rw [h]
 simp only []
 rw [tk_ok (by simp;omega) hn]
 rfl
theorem cutText_spec (Q) (r) (sp) (most) (hQ:∀ w,St w0 L w→Q.holds w) (hq:CutOK Q az r cz) (hs:St w0 ((Cel c #[.slice az r.length cz,.bool sp] 150)::L) w):Cs Tryz.prog 80 #[zP c 0,.int .i64 most] w fun rv w'=>∃ ss2 rr2 sp2 az2 cz2,rv=.string ss2∧textP most (r,sp)=(ss2,(rr2,sp2))∧CutOK Q az2 rr2 cz2∧St w0 ((Cel c #[.slice az2 rr2.length cz2,.bool sp2] 150)::L) w':=by
 refine Zen Tryz.func80 Tryz.ntmps80 (En (Lq (Ls (Lq (LF (Lk (Lt (Ls (Dz (Zaj (Hl 3 0 0 hs Hz) (En (Lt (Ls (Lg [1] (Lw (Zc (cutHalf_spec Q r sp (fun w h=>hQ w (h.drop 0)) hq hs) ?_))))))))))))))))
 rintro b5 b6 ⟨a,rr2,b,q,o,rfl,u,b7,x,a0⟩
 refine Zojd (Hwi 2 (a:Nat) Hz) (Zt (Zs (Zs (GoC.join (T:=Unit) (E:=fun _=>[(26,.bool ((!b) && (decide ((a:Int)>most)))),(6,.int .i64 (a:Nat)),(5,.slice az r.length cz),(4,.string (⟨#[]⟩:ByteArray)),(0,zP c 0)]) (F:=fun _ w=>St w0 ((Cel c #[.slice q rr2.length o,.bool b] 150)::L) w) ?_ ?_))))
 ·refine Zg [] (Zpj 0 6 (Hl 3 0 1 a0 Hz) ?_)
  rcases Bool.eq_false_or_eq_true (!b) with d|d
  ·exact Zqs 22 true d (En (Lud (Dz (Zmb [26,6,5,4,0] () (decide ((a:Int)>most)) (by first|rfl|simp [Hb,d,(notT d)]) a0))))
  ·exact Zqs 22 false d (En (Lud (Dz (Zmb [26,6,5,4,0] () false (by first|rfl|simp [Hb,d,(notF d)]) a0))))
 intro _ b8 a3
 refine Zt (Zqc (t:=(!b) && (decide ((a:Int)>most))) (fun i=>?_) (fun i=>?_))
 ·have a8:=(Bool.and_eq_true_iff.1 i).1
  have a9:(decide ((a:Int)>most))=true:=(Bool.and_eq_true_iff.1 i).2
  refine En (Lg [3] (Lw (Zu 0 1 #[.slice q rr2.length o,.bool true] a3 fun c1 b0=>Lo (Ld (Lt (Ls (Lg [2] (Lw (Zc (take_spec Q rr2 true a (fun w h=>hQ w (h.drop 0)) x b0) ?_)))))))))
  rintro c2 c3 (⟨rfl,b1,c4,c5⟩|⟨rfl,c6,a4⟩)
  ·cases b1
  ·exact Lz (Ls (Ls (Dz (Zaj (Hl 3 0 1 a4 Hz) (En (Lt (LT (Ls (Lg [4] (Lw (Zu 0 0 #[.slice az r.length cz,.bool true] a4 fun c7 b2=>Lo (Ld (Lt (Lq (Le (Ly (Dz (Zq1 (v:=.string (⟨#[]⟩:ByteArray)) ⟨⟨#[]⟩,r,true,az,cz,rfl,(textP_bad u (.inl (by rw [Bool.and_eq_true] at i;rw [i.2,Bool.or_true]))),hq,b2⟩))))))))))))))))))
 ·refine En (Lk (Lt (Ls (Lg [2] (Lw (Zc (take_spec Q rr2 b a (fun w h=>hQ w (h.drop 0)) x a3) ?_))))))
  rintro c8 c9 (⟨rfl,a5,a6,a2⟩|⟨rfl,b3,a7⟩)
  ·exact Lz (Ls (Ls (Dz (Zaj (Hl 3 0 1 a2 Hz) (En (Lt (LF (Lk (Lt (Ls (Lg [] (Dz (Zr 0 1 [] (GoR.bytesStrG rfl (by kernel_rfl) (src:=22) (dst:=9) (e:=5) (ad:=q) (n:=((rr2.take a).length)) (cap:=o) (f:=byteC) rfl (rr2.take a) rfl (by kernel_rfl) (by kernel_rfl) (by kernel_rfl) (by kernel_rfl) (fun z hz=>CutOK.byt (by assumption) z (List.mem_of_mem_take hz)) (RowsAt.takeL (x.row _ (hQ _ (a2.drop 1))) _ (by omega)) (En (Lud (Lt (Le (Dz (Zq1 (v:=.string (strOf (rr2.take a))) ⟨strOf (rr2.take a),(rr2.drop a),false,subAd q o a 1,o-a,rfl,(textP_ok (a5▸u) (by rw [a5] at i;simp at i;omega) a6),(CutOK.drop (by assumption) a6),a2⟩))))))))))))))))))))
  ·exact Lz (Ls (Ls (Dz (Zaj (Hl 3 0 1 a7 Hz) (En (Lt (LT (Ls (Lg [4] (Lw (Zu 0 0 #[.slice az r.length cz,.bool true] a7 fun d0 b4=>Lo (Ld (Lt (Lq (Le (Ly (Dz (Zq1 (v:=.string (⟨#[]⟩:ByteArray)) ⟨⟨#[]⟩,r,true,az,cz,rfl,(textP_bad u (b3.elim (fun h=>.inl (by rw [h];rfl)) .inr)),hq,b4⟩))))))))))))))))))
theorem cutRaw_spec (Q) (r) (sp) (n) (hQ:∀ w,St w0 L w→Q.holds w) (hq:CutOK Q az r cz) (hs:St w0 ((Cel c #[.slice az r.length cz,.bool sp] 150)::L) w):Cs Tryz.prog 77 #[zP c 0,.int .i64 (n:Nat)] w fun rv w'=>∃ ao2 co2 ll2 rr2 sp2 az2 cz2,rv=.slice ao2 ll2.length co2∧tk n (r,sp)=(ll2,(rr2,sp2))∧CutOK Q az2 rr2 cz2∧St w0 ((Sl ao2 co2 5 1 byteC ll2)::(Cel c #[.slice az2 rr2.length cz2,.bool sp2] 150)::L) w':=by
 refine Zen Tryz.func77 Tryz.ntmps77 (En (Lq (Ls (Lg [2,3] (Lw (Zc (take_spec Q r sp n (fun w h=>hQ w (h.drop 0)) hq hs) ?_))))))
 rintro v6 w7 (⟨rfl,e,a,i⟩|⟨rfl,o,q⟩)
 ·refine Lo (Dz (Zqa (f:=72) (args:=#[.slice az ((r.take n).length) cz]) Tryz.call72 (cloneV_spec (r.take n) (by have:=hq.len;rw [List.length_take];omega) hq.som (fun w h=>RowsAt.takeL (hq.row w (hQ w (h.drop 1))) _ (by omega)) i) ?_))
  rintro a0 a1 ⟨b,d,rfl,u⟩
  exact Lz (Le (Dz (Zq1 (v:=.slice b ((r.take n).length) d) ⟨b,d,(r.take n),(r.drop n),false,subAd az cz n 1,cz-n,rfl,(tk_ok e a),(hq.drop a),u⟩)))
 ·exact Lo (Dz (Zc1 (cloneN_spec q) fun a3 x=>Lz (Le (Dz (Zq1 (v:=.slice none 0 0) ⟨none,0,([]:List Int),r,true,az,cz,rfl,(tk_bad o),hq,(St.slNil x 5 1 byteC)⟩)))))
theorem cutNew_spec (F) (hFl:F.length≤1000000000) (hsm:Som ad ca) (hr:Rw w0 L byteC 1 0 ad F) (hs:St w0 (L) w):Cs Tryz.prog 44 #[.slice ad F.length ca] w fun rv w'=>∃ cc ao co,rv=zP cc 0∧St w0 ((Cel cc #[.slice ao F.length co,.bool false] 150)::(Sl ao co 5 1 byteC F)::L) w':=by
 refine Zen Tryz.func44 Tryz.ntmps44 (En (Lq (Ls (Lg [1,3] (Lw (Zqa (f:=72) (args:=#[.slice ad F.length ca]) Tryz.call72 (cloneV_spec F (by first|assumption|omega) (by first|assumption|omega) (fun w h=>hr _ (h.drop 0)) hs) ?_))))))
 rintro o q ⟨a,b,rfl,e⟩
 exact Lo (Lw (Zbg #[.slice a F.length b,.bool false] e fun d u i=>Lz (Le (Dz (Zq1 (v:=zP d 0) ⟨d,a,b,rfl,i⟩)))))
theorem CutOK.new {ao:Option Addr}{co j:Nat}{F:List Int}(hs:St w0 L w) (hj:L[j]?=some (Sl ao co 5 1 byteC F)) (hb:∀ z∈F,0≤z∧z<256) (hl:F.length≤1000000):CutOK (Sl ao co 5 1 byteC F) ao F co :=
 ⟨Sl.cap (hs.at_ j hj),own_som hs j hj,fun w h=>Sl.rows byteF.size h (0:Int),hb,hl⟩
theorem strOf_inj {x y:List Int}(hx:∀ z∈x,0≤z∧z<256) (hy:∀ z∈y,0≤z∧z<256) (h:strOf x=strOf y):x=y:=by
 have a:=congrArg strB h
 rw [strB_strOf hx,strB_strOf hy] at a
 exact a
theorem strOf_dec {x y:List Int}(hx:∀ z∈x,0≤z∧z<256) (hy:∀ z∈y,0≤z∧z<256):decide (strOf x=strOf y)=decide (x=y):=by
 by_cases h:x=y
 ·subst h;simp
 ·rw [decide_eq_false h,decide_eq_false fun a=>h (strOf_inj hx hy a)]
theorem bytesEq_spec (x) (y) (hbx:∀ z∈x,0≤z∧z<256) (hby:∀ z∈y,0≤z∧z<256) (hr1:Rw w0 L byteC 1 0 ax x) (hr2:Rw w0 L byteC 1 0 ay y) (hs:St w0 (L) w):Cs Tryz.prog 83 #[.slice ax x.length cx,.slice ay y.length cy] w fun rv w'=>rv=.bool (decide (x=y))∧St w0 (L) w':=by
 exact Zen Tryz.func83 Tryz.ntmps83 (En (Lq (Ls (Lg [] (Dz (Zr 0 1 [] (GoR.bytesStrG rfl (by kernel_rfl) (src:=22) (dst:=9) (e:=5) (ad:=ax) (n:=x.length) (cap:=cx) (f:=byteC) rfl x rfl (by kernel_rfl) (by kernel_rfl) (by kernel_rfl) (by kernel_rfl) hbx (hr1 _ (hs.drop 0)) (Zr 2 1 [] (GoR.bytesStrG rfl (by kernel_rfl) (src:=22) (dst:=9) (e:=5) (ad:=ay) (n:=y.length) (cap:=cy) (f:=byteC) rfl y rfl (by kernel_rfl) (by kernel_rfl) (by kernel_rfl) (by kernel_rfl) hby (hr2 _ (hs.drop 0)) (Zjd (Hg 4 (.as_ (.bool (decide ((strOf x)=(strOf y)))) (.gen [])) [.prop (Value.bool ((strOf x).toList == (strOf y).toList)=Value.bool (decide ((strOf x)=(strOf y))))] (okp (seq _ _) ok0) Hz) (Zt (Ze (Zq1 (v:=.bool (decide ((strOf x)=(strOf y)))) ⟨(by rw [strOf_dec hbx hby]),hs⟩)))))))))))))
end
section
variable {w0 w : World} {L : List Asn} {c : Nat} {az : Option Addr} {cz : Nat}
def hashP (s:CS):D32×CS:=(vecL (tk 32 s).1,(tk 32 s).2)
theorem tk_len (n:Nat) (s:CS):(tk n s).1.length≤n:=by
 unfold tk
 split
 ·exact Nat.zero_le _
 ·rw [List.length_take];omega
theorem tk_byt {n:Nat}{s:CS}(h:∀ z∈s.1,0≤z∧z<256):∀ z∈(tk n s).1,0≤z∧z<256:=by
 unfold tk
 split
 ·intro z hz;cases hz
 ·exact fun z hz=>h z (List.mem_of_mem_take hz)
theorem vecLay {l:List Int}(h:l.length≤32):arrCells byteC (layL (List.replicate 32 (0:Int)) 0 (l.take (min l.length 32)))=D32.cells (vecL l):=by
 have a:l.take (min l.length 32)=l:=List.take_of_length_le (by omega)
 have b:layL (List.replicate 32 (0:Int)) 0 l=(l++List.replicate 32 0).take 32:=by
  show List.take 0 _++l++List.drop (0+l.length) _=_
  rw [List.take_zero,List.nil_append,List.drop_replicate,List.take_append,List.take_of_length_le h,List.take_replicate]
  congr 2
  omega
 rw [a,b,D32.eqm,byte_flat]
 apply Array.ext'
 show((l++List.replicate 32 0).take 32).map (Value.int .u8)=(((l++List.replicate 32 0).take 32).toArray.map (Value.int .u8)).toList
 simp
theorem lay32 (l:List Int):(layL (List.replicate 32 (0:Int)) 0 (l.take (min l.length 32))).length=32:=by rw [layL_length (by simp only [List.length_take,List.length_replicate];omega),List.length_replicate]
theorem vecL_byt {l:List Int}(h:∀ z∈l,0≤z∧z<256):∀ z∈(vecL l).toList,0≤z∧z<256:=by
 intro z hz
 have e:(vecL l).toList=(l++List.replicate 32 0).take 32:=by
  show(((l++List.replicate 32 0).take 32).toArray).toList=_
  simp
 rw [e] at hz
 rcases List.mem_append.1 (List.mem_of_mem_take hz) with a|a
 ·exact h z a
 ·rw [List.eq_of_mem_replicate a];omega
theorem hash_spec (Q) (r) (sp) (hQ:∀ w,St w0 L w→Q.holds w) (hq:CutOK Q az r cz) (hs:St w0 ((Cel c #[.slice az r.length cz,.bool sp] 150)::L) w):Cs Tryz.prog 148 #[zP c 0] w fun rv w'=>∃ dd2 rr2 sp2 az2 cz2,rv=.agg (D32.cells dd2)∧hashP (r,sp)=(dd2,(rr2,sp2))∧(∀ z∈dd2.toList,0≤z∧z<256)∧CutOK Q az2 rr2 cz2∧St w0 ((Cel c #[.slice az2 rr2.length cz2,.bool sp2] 150)::L) w':=by
 refine Zen Tryz.func148 Tryz.ntmps148 (En (Ls (Lg [0] (Dz (Zag (arrCells byteC (List.replicate 32 (0:Int))) hs fun e w2 a4=>Lo (Ld (Lt (Ls (Dz (ZD (rds [0,1] (.ef 2 (.ef 3 .done))) a4 fun w4 a5 b0=>Zj (Hg 0 (.as_ (zL e 0 32 32) (.sub 0 32)) [.prop ((((none:Option Operand))=none→(0:Nat)=0)∧(((none:Option Operand))=none→(32:Nat)=32)∧(0:Nat)≤32∧(32:Nat)≤32),.prop (Value.slice (some (if 32=0 then Addr.mk e 0 none else (Addr.mk e 0 none).add (0*1))) (32-0) (32-0)=Value.slice (some ⟨e,0,none⟩) 32 32)] (okp ⟨(by first|(intro _;rfl)|(intro hc;cases hc)),(by first|(intro _;rfl)|(intro hc;cases hc)),(by omega),(by omega)⟩ (okp (subArr0 _ _ _ _ _ (by decide)) ok0)) Hz) (Zc (cutRaw_spec Q r sp 32 (fun w h=>hQ w (h.drop 1)) hq (a5.pl 1)) ?_)))))))))))
 rintro b2 b3 ⟨q,u,d,f,i,x,a0,rfl,o,a7,a8⟩
 refine⟨(opl (n:=[.prop ((((none:Option Operand))=none→(0:Nat)=0)∧(((none:Option Operand))=none→(32:Nat)=32)∧(0:Nat)≤32∧(32:Nat)≤32),.prop (Value.slice (some (if 32=0 then Addr.mk e 0 none else (Addr.mk e 0 none).add (0*1))) (32-0) (32-0)=Value.slice (some ⟨e,0,none⟩) 32 32)]) (by kernel_rfl) (okp ⟨(by first|(intro _;rfl)|(intro hc;cases hc)),(by first|(intro _;rfl)|(intro hc;cases hc)),(by omega),(by omega)⟩ (okp (subArr0 _ _ _ _ _ (by decide)) ok0))),?_⟩
 have a1:=(a8.pl 2)
 refine GoR.copyN rfl (by kernel_rfl) bytesOK byteF (b:=e) (off:=0) (dLen:=32) (dCap:=32) (ys:=d) (adx:=q) (cx:=u) (0:Int) rfl (by kernel_rfl) a1 (a1.rows 1 rfl (byteF).size (0:Int)) (by rw [arr_size byteF.size];simp only [List.length_replicate,Nat.zero_add];exact Nat.mul_le_mul_right _ (by omega)) (cs':=arrCells byteC (layL (List.replicate 32 (0:Int)) 0 ((d).take (min (d).length 32)))) (by show splice _ (0*1) _=_;exact put_rows byteF.size (by simp only [List.length_take,List.length_replicate];omega)) fun b4 a2=>Lo (Ld (Lt (Ls (Dz (Zgj [1] (Hg 0 (.agg (arrCells byteC (layL (List.replicate 32 (0:Int)) 0 ((d).take (min (d).length 32))))) [.prop (Array.size ((arrCells byteC (layL (List.replicate 32 (0:Int)) 0 ((d).take (min (d).length 32)))))=32),.cells ⟨e,0,none⟩ (arrCells byteC (layL (List.replicate 32 (0:Int)) 0 ((d).take (min (d).length 32))))] (okp (arrvSize byteF (show(layL (List.replicate 32 (0:Int)) 0 ((d).take (min (d).length 32))).length=32 from(lay32 _)) rfl) (oka (a2.cells 0 0 rfl (by simp)) ok0)) Hz) (GoR.store rfl rfl (by kernel_rfl) (b:=e) (off:=0) (v:=.agg (arrCells byteC (layL (List.replicate 32 (0:Int)) 0 ((d).take (min (d).length 32))))) (by kernel_rfl) (by kernel_rfl) (ti:=Tryz.t32) (by kernel_rfl) a2 0 rfl (arrvCells byteF (show(layL (List.replicate 32 (0:Int)) 0 ((d).take (min (d).length 32))).length=32 from(lay32 _)) (by kernel_rfl)) (arrvOne byteF) (arrvRoom byteF (show(layL (List.replicate 32 (0:Int)) 0 ((d).take (min (d).length 32))).length=32 from(lay32 _)) (by rw [arrvSize byteF (show(layL (List.replicate 32 (0:Int)) 0 ((d).take (min (d).length 32))).length=32 from(lay32 _)) (m:=32) rfl];rfl)) (cs':=arrCells byteC (layL (List.replicate 32 (0:Int)) 0 ((d).take (min (d).length 32)))) (L':=(Cel e (arrCells byteC (layL (List.replicate 32 (0:Int)) 0 ((d).take (min (d).length 32)))) 32)::(Sl q u 5 1 byteC d)::(Cel c #[.slice x f.length a0,.bool i] 150)::L) (arrvPut byteF (show(layL (List.replicate 32 (0:Int)) 0 ((d).take (min (d).length 32))).length=32 from(lay32 _)) (by rw [arrvSize byteF (show(layL (List.replicate 32 (0:Int)) 0 ((d).take (min (d).length 32))).length=32 from(lay32 _)) (m:=32) rfl];rfl)) rfl fun b5 a3=>Lo (Ld (Lt (Le (Dz (GoQ.done (.inl rfl) (v:=.agg (arrCells byteC (layL (List.replicate 32 (0:Int)) 0 ((d).take (min (d).length 32))))) (fun a hf=>resultsA rfl (by kernel_rfl) (ti:=Tryz.t32) (by kernel_rfl) (by kernel_rfl) (vs:=(arrCells byteC (layL (List.replicate 32 (0:Int)) 0 ((d).take (min (d).length 32))))) (arrvSize byteF (show(layL (List.replicate 32 (0:Int)) 0 ((d).take (min (d).length 32))).length=32 from(lay32 _)) (by kernel_rfl)) (a3.cells 0 0 rfl (by simp)) a hf) ?_)))))))))))
 have h6:=tk_byt (n:=32) (s:=(r,sp)) hq.byt
 rw [o] at h6
 have h9:hashP (r,sp)=(vecL d,(f,i)):=by unfold hashP;rw [o]
 have h8:(d).length≤32:=by have h7:=tk_len 32 (r,sp);rw [o] at h7;exact h7
 exact⟨(vecL d),f,i,x,a0,(congrArg Value.agg (vecLay h8)),h9,(vecL_byt h6),a7,(a3.dr 2)⟩
def rqP (s:CS):TRq×CS :=
 let a:=byteP s
 let b:=byteP a.2
 let c:=wordP b.2
 let d:=wordP c.2
 let e:=textP 32 d.2
 let f:=textP 128 e.2
 let g:=textP 128 f.2
 let h:=textP 32 g.2
 let i:=hashP h.2
 (⟨a.1,c.1,⟨b.1,e.1,f.1,g.1,h.1,d.1⟩,i.1⟩,i.2)
structure RqOK (r:TRq):Prop where
 cl:-9223372036854775808≤r.cl∧r.cl≤9223372036854775807
 tm:0≤r.tm∧r.tm≤18446744073709551615
 kd:0≤r.op.kd∧r.op.kd≤255
 am:0≤r.op.am∧r.op.am≤18446744073709551615
 tg:∀ z∈r.tg.toList,0≤z∧z<256
theorem getRequest_spec (Q) (r) (sp) (hQ:∀ w,St w0 L w→Q.holds w) (hq:CutOK Q az r cz) (hs:St w0 ((Cel c #[.slice az r.length cz,.bool sp] 150)::L) w):Cs Tryz.prog 175 #[zP c 0] w fun rv w'=>∃ xq2 rr2 sp2 az2 cz2,rv=.agg (TRq.cells xq2)∧rqP (r,sp)=(xq2,(rr2,sp2))∧RqOK xq2∧CutOK Q az2 rr2 cz2∧St w0 ((Cel c #[.slice az2 rr2.length cz2,.bool sp2] 150)::L) w':=by
 refine Zen Tryz.func175 Tryz.ntmps175 (En (Ls (Lg [0] (Dz (Zag (TRq.cells dRq) hs fun b1 w2 a0=>Lo (Ld (Lt (Ls (Lg [1,4,6,9] (Lw (Zc (cutByte_spec Q r sp (fun w h=>hQ w (h.drop 1)) hq (a0.pl 1)) ?_)))))))))))
 rintro g5 g7 ⟨a,a2,a3,g8,g9,rfl,a4,h0,a5,a6⟩
 refine Zoj (Hwi 2 a Hz) (Zc (cutByte_spec Q a2 a3 (fun w h=>hQ w (h.drop 1)) a5 a6) ?_)
 rintro h1 h2 ⟨b,a7,a8,h3,h4,rfl,a9,h5,b0,b2⟩
 refine Lo (Lw (Zu 1 0 (TRq.cells (⟨a,0,dOp,dD32⟩:TRq)) b2 fun h6 b3=>Lo (Lw (Zu 1 2 (TRq.cells (⟨a,0,(⟨b,(⟨#[]⟩:ByteArray),(⟨#[]⟩:ByteArray),(⟨#[]⟩:ByteArray),(⟨#[]⟩:ByteArray),0⟩:TOp),dD32⟩:TRq)) b3 fun h7 b4=>Lo (Ld (Lt (Ls (Lg [1,3,5,8] (Lw (Zc (cutWord_spec Q a7 a8 (fun w h=>hQ w (h.drop 1)) b0 b4) ?_))))))))))
 rintro h8 h9 ⟨d,b5,b6,i0,i1,rfl,b7,i2,b8,b9⟩
 refine Lo (Lw (Zc (cutWord_spec Q b5 b6 (fun w h=>hQ w (h.drop 1)) b8 b9) ?_))
 rintro i3 i4 ⟨e,c0,c1,i5,i6,rfl,c2,i7,c3,c4⟩
 refine Lo (Lw (Zu 1 1 (TRq.cells (⟨a,d,(⟨b,(⟨#[]⟩:ByteArray),(⟨#[]⟩:ByteArray),(⟨#[]⟩:ByteArray),(⟨#[]⟩:ByteArray),0⟩:TOp),dD32⟩:TRq)) c4 fun i8 c5=>Lo (Lw (Zu 1 7 (TRq.cells (⟨a,d,(⟨b,(⟨#[]⟩:ByteArray),(⟨#[]⟩:ByteArray),(⟨#[]⟩:ByteArray),(⟨#[]⟩:ByteArray),e⟩:TOp),dD32⟩:TRq)) c5 fun i9 c6=>Lo (Ld (Lt (Ls (Lg [1,3,6,9] (Lw (Zc (cutText_spec Q c0 c1 32 (fun w h=>hQ w (h.drop 1)) c3 c6) ?_))))))))))
 rintro j0 j1 ⟨f,c7,c8,j2,j3,rfl,c9,d0,d1⟩
 refine Lo (Lw (Zc (cutText_spec Q c7 c8 128 (fun w h=>hQ w (h.drop 1)) d0 d1) ?_))
 rintro j4 j5 ⟨i,d2,d3,j6,j7,rfl,d4,d5,d6⟩
 refine Lo (Lw (Zu 1 3 (TRq.cells (⟨a,d,(⟨b,f,(⟨#[]⟩:ByteArray),(⟨#[]⟩:ByteArray),(⟨#[]⟩:ByteArray),e⟩:TOp),dD32⟩:TRq)) d6 fun j8 d7=>Lo (Lw (Zu 1 4 (TRq.cells (⟨a,d,(⟨b,f,i,(⟨#[]⟩:ByteArray),(⟨#[]⟩:ByteArray),e⟩:TOp),dD32⟩:TRq)) d7 fun j9 d8=>Lo (Ld (Lt (Ls (Lg [1,3,6,9] (Lw (Zc (cutText_spec Q d2 d3 128 (fun w h=>hQ w (h.drop 1)) d5 d8) ?_))))))))))
 rintro k0 k1 ⟨o,d9,e0,k2,k3,rfl,e1,e2,e3⟩
 refine Lo (Lw (Zc (cutText_spec Q d9 e0 32 (fun w h=>hQ w (h.drop 1)) e2 e3) ?_))
 rintro k4 k5 ⟨q,e4,e5,k6,k7,rfl,e6,e7,e8⟩
 refine Lo (Lw (Zu 1 5 (TRq.cells (⟨a,d,(⟨b,f,i,o,(⟨#[]⟩:ByteArray),e⟩:TOp),dD32⟩:TRq)) e8 fun k8 e9=>Lo (Lw (Zu 1 6 (TRq.cells (⟨a,d,(⟨b,f,i,o,q,e⟩:TOp),dD32⟩:TRq)) e9 fun k9 f0=>Lo (Ld (Lt (Ls (Lg [1,3] (Lw (Zc (hash_spec Q e4 e5 (fun w h=>hQ w (h.drop 1)) e7 f0) ?_))))))))))
 rintro l0 l1 ⟨u,f1,f2,f3,f4,rfl,f5,f6,f7,f8⟩
 refine Lo (Lw (Zu 1 8 (TRq.cells (⟨a,d,(⟨b,f,i,o,q,e⟩:TOp),u⟩:TRq)) f8 fun l2 x=>Lo (Ld (Lt (Ls (Dz (Zgj [1] (Hla 0 1 0 40 (TRq.cells (⟨a,d,(⟨b,f,i,o,q,e⟩:TOp),u⟩:TRq)) x Hz) (Zu 1 0 (TRq.cells (⟨a,d,(⟨b,f,i,o,q,e⟩:TOp),u⟩:TRq)) x fun l3 z=>Lo (Ld (Lt (Le (Dz (Zra 1 z ?_)))))))))))))
 have f9:=((z.pl 0).pl 1)
 exact⟨(⟨a,d,(⟨b,f,i,o,q,e⟩:TOp),u⟩:TRq),f1,f2,f3,f4,rfl,(by unfold rqP;simp only [a4,a9,b7,c2,c9,d4,e1,e6,f5]),⟨(by dsimp only;omega),(by dsimp only;omega),(by dsimp only;omega),(by dsimp only;omega),f6⟩,f7,(f9.dr 1)⟩
end
section
variable {w0 w : World} {L : List Asn} {ad : Option Addr} {c : Nat}
def askedB (r:TRq):Bool :=
 (((((decide ((r.cl:Int) ≥ 1)) && (decide ((r.cl:Int)≤8))) && (decide ((r.tm:Int) ≥ 1))) && (decide ((r.tm:Int)≤4611686018427387904))) && (decide ((max ((r.op.ky.size:Nat):Int) ((r.op.tx.size:Nat):Int):Int)≤32))) && (decide ((max ((r.op.va.size:Nat):Int) ((r.op.ol.size:Nat):Int):Int)≤128))
theorem asked_spec (r) (hs:St w0 (L) w):Cs Tryz.prog 177 #[.agg (TRq.cells r)] w fun rv w'=>rv=.bool (askedB r)∧St w0 (L) w':=by
 refine Zen Tryz.func177 Tryz.ntmps177 (En (Ls (Lg [0] (Dz (Zbg (TRq.cells r) hs fun o w2 a=>Lz (Ls (Dz (GoC.join (T:=Unit) (E:=fun _=>[(2,.bool ((((((decide ((r.cl:Int) ≥ 1)) && (decide ((r.cl:Int)≤8))) && (decide ((r.tm:Int) ≥ 1))) && (decide ((r.tm:Int)≤4611686018427387904))) && (decide ((max (r.op.ky.size:Int) (r.op.tx.size:Int):Int)≤32))) && (decide ((max (r.op.va.size:Int) (r.op.ol.size:Int):Int)≤128))))]) (F:=fun _ w=>St w0 ((Cel o (TRq.cells r) 34)::L) w) ?_ ?_))))))))
 ·refine Zg [] (Zpj 0 4 (Hl 1 0 0 a Hz) (Zsq 6 (decide ((r.cl:Int) ≥ 1)) (fun b=>?_) (fun b=>?_)))
  ·refine Zpj 4 5 (Hl 5 0 0 a Hz) (Zsq 11 (decide ((r.cl:Int)≤8)) (fun d=>?_) (fun d=>?_))
   ·refine Zpj 9 5 (Hl 10 0 1 a Hz) (Zsq 16 (decide ((r.tm:Int) ≥ 1)) (fun e=>?_) (fun e=>?_))
    ·refine Zpj 14 5 (Hl 15 0 1 a Hz) (Zsq 21 (decide ((r.tm:Int)≤4611686018427387904)) (fun f=>?_) (fun f=>?_))
     ·refine Zp 19 12 [(21,.gen [.string r.op.ky]),(25,.gen [.string r.op.tx]),(27,.as_ (.int .i64 (max (r.op.ky.size:Int) (r.op.tx.size:Int))) (.gen []))] [(21,[.cell ⟨o,3,none⟩ (.string r.op.ky)]),(25,[.cell ⟨o,6,none⟩ (.string r.op.tx)]),(27,[.prop (Value.int .i64 (if (r.op.tx.size:Int)>(r.op.ky.size:Int) then (r.op.tx.size:Int) else (r.op.ky.size:Int))=Value.int .i64 (max (r.op.ky.size:Int) (r.op.tx.size:Int)))])] (ak (okc (a.cell 0 rfl (by kernel_rfl)) ok0) (ak (okc (a.cell 0 rfl (by kernel_rfl)) ok0) (ak (okp maxok ok0) ak0))) (Zsq 33 (decide ((max (r.op.ky.size:Int) (r.op.tx.size:Int):Int)≤32)) (fun i=>?_) (fun i=>?_))
      ·exact Zjd (Hl 33 0 4 a (Hl 37 0 5 a (Hg 39 (.as_ (.int .i64 (max (r.op.va.size:Int) (r.op.ol.size:Int))) (.gen [])) [.prop (Value.int .i64 (if (r.op.ol.size:Int)>(r.op.va.size:Int) then (r.op.ol.size:Int) else (r.op.va.size:Int))=Value.int .i64 (max (r.op.va.size:Int) (r.op.ol.size:Int)))] (okp maxok ok0) Hz))) (Zmb [2] () (decide ((max (r.op.va.size:Int) (r.op.ol.size:Int):Int)≤128)) (by first|rfl|simp [Hb,b,d,e,f,i]) a)
      ·exact En (Lud (Dz (Zmb [2] () false (by first|rfl|simp [Hb,b,d,e,f,i]) a)))
     ·exact En (Lud (Dz (Zmb [2] () false (by first|rfl|simp [Hb,b,d,e,f]) a)))
    ·exact En (Lud (Dz (Zmb [2] () false (by first|rfl|simp [Hb,b,d,e]) a)))
   ·exact En (Lud (Dz (Zmb [2] () false (by first|rfl|simp [Hb,b,d]) a)))
  ·exact En (Lud (Dz (Zmb [2] () false (by first|rfl|simp [Hb,b]) a)))
 intro _ w9 a2
 exact Zt (Ze (Zq1 (v:=.bool ((((((decide ((r.cl:Int) ≥ 1)) && (decide ((r.cl:Int)≤8))) && (decide ((r.tm:Int) ≥ 1))) && (decide ((r.tm:Int)≤4611686018427387904))) && (decide ((max (r.op.ky.size:Int) (r.op.tx.size:Int):Int)≤32))) && (decide ((max (r.op.va.size:Int) (r.op.ol.size:Int):Int)≤128)))) (Zfb (by rw [askedB]) (a2.dr 1))))
def rqB (r:TRq):List Int:=[IntKind.u8.wrap r.cl,r.op.kd]++(wd r.tm++(wd r.op.am++(tx r.op.ky++(tx r.op.va++(tx r.op.ol++tx r.op.tx)))))
structure RqSz (r:TRq):Prop where
 ky:r.op.ky.size≤128
 va:r.op.va.size≤128
 ol:r.op.ol.size≤128
 tx:r.op.tx.size≤128
theorem rqB_length {r:TRq}(h:RqSz r):(rqB r).length≤538:=by
 have:=h.ky;have:=h.va;have:=h.ol;have:=h.tx
 simp only [rqB,lA,lC,lN,wd_length,tx_length]
 omega
theorem request_spec (l) (r) (hl:l.length≤100000) (hk:RqOK r) (hz:RqSz r) (hs:St w0 ((Sl ad c 5 1 byteC l)::L) w):Cs Tryz.prog 173 #[.slice ad l.length c,.agg (TRq.cells r)] w fun rv w'=>∃ ao co,rv=.slice ao ((l++rqB r).length) co∧St w0 ((Sl ao co 5 1 byteC (l++rqB r))::L) w':=by
 refine Zen Tryz.func173 Tryz.ntmps173 (Zs ?_)
 have a9:=hz.ky
 have b0:=hz.va
 have b2:=hz.ol
 have b3:=hz.tx
 have b5:=hk.tm
 have b6:=hk.am
 refine Zg [0] (Zbg (TRq.cells r) hs fun b1 w2 d=>Lz (Ls (Dz (Zgj [7,8] (Hl 2 0 0 d (Hl 6 0 2 d Hz)) (Zll bytesOK byteF [(IntKind.u8.wrap r.cl:Int),(r.op.kd:Int)] d fun b4 w5 a2=>Lo (Dz (Zap bytesOK byteF (0:Int) (a2.pl 2) (by simp only [lA,lC,lN,wd_length,hf_length,tx_length] at *;omega) fun b7 b8 w9 a4=>Lz (Ls (Dz (ZD (rds [0,1,2,4,5,6] (.ef 3 (.ef 7 (.rd 8 .done)))) a4 fun b9 f c0=>Zj (Hl 2 2 1 f (Hl 6 2 7 f Hz)) (Zc (word_spec (l++([(IntKind.u8.wrap r.cl:Int),(r.op.kd:Int)])) r.tm (by first|omega|(simp only [lA,lC,lN,wd_length] at *;omega)) (by omega) f) ?_)))))))))))
 rintro c1 c2 ⟨c3,c4,rfl,i⟩
 refine⟨(opl (n:=[.cell ⟨b1,7,none⟩ (.int .u64 r.op.am)]) (by kernel_rfl) (okc (i.cell 2 rfl (by kernel_rfl)) ok0)),(Zc (word_spec (l++([(IntKind.u8.wrap r.cl:Int),(r.op.kd:Int)])++wd r.tm) r.op.am (by first|omega|(simp only [lA,lC,lN,wd_length] at *;omega)) (by omega) i) ?_)⟩
 rintro c5 c6 ⟨c7,c8,rfl,a⟩
 refine Lz (Ls (Ls (Dz (Zgj [12] (Hl 2 2 3 a (Hl 5 2 4 a (Hl 8 2 5 a (Hl 11 2 6 a Hz)))) (GoR.sliceLit rfl (by kernel_rfl) (t:=76) (e:=9) (n:=4) (ps:=[(0,.string r.op.ky),(1,.string r.op.va),(2,.string r.op.ol),(3,.string r.op.tx)]) (by kernel_rfl) (by kernel_rfl) (ti:=Tryz.t9) (z:=.string (⟨#[]⟩:ByteArray)) (by kernel_rfl) (by kernel_rfl) (by decide) (by decide) (cs:=#[.string r.op.ky,.string r.op.va,.string r.op.ol,.string r.op.tx]) (by kernel_rfl) a fun b c9 o d0=>Lz (Lb (Dz (GoC.unroll 12 (En (Lq (Ls (LT (Lk (Lt (Ls (Lb (Ls (Dz (Zaj (Hx 0 (0:Int) (4:Int) b 0 1 (Hl 1 0 0 o Hz)) (En (Lt (Lg [2] (Lw (Zc (text_spec (l++([(IntKind.u8.wrap r.cl:Int),(r.op.kd:Int)])++wd r.tm++wd r.op.am) r.op.ky (by simp only [lA,lC,lN,wd_length,hf_length,tx_length] at *;omega) (by omega) (o.pl 1)) ?_))))))))))))))))))))))))
 rintro d1 d2 ⟨d3,d4,rfl,q⟩
 refine Lo (Lud (Lm (Lt (La (Dz (GoQ.again (En (Lq (Ls (LT (Lk (Lt (Ls (Lb (Ls (Dz (Zaj (Hx 0 (1:Int) (4:Int) b 0 1 (Hl 1 1 1 q Hz)) (En (Lt (Lg [2] (Lw (Zc (text_spec ((l++([(IntKind.u8.wrap r.cl:Int),(r.op.kd:Int)])++wd r.tm++wd r.op.am)++tx r.op.ky) r.op.va (by simp only [lA,lC,lN,wd_length,hf_length,tx_length] at *;omega) (by omega) q) ?_))))))))))))))))))))))
 rintro d5 d6 ⟨d7,d8,rfl,u⟩
 refine Lo (Lud (Lm (Lt (La (Dz (GoQ.again (En (Lq (Ls (LT (Lk (Lt (Ls (Lb (Ls (Dz (Zaj (Hx 0 (2:Int) (4:Int) b 0 1 (Hl 1 1 2 u Hz)) (En (Lt (Lg [2] (Lw (Zc (text_spec (((l++([(IntKind.u8.wrap r.cl:Int),(r.op.kd:Int)])++wd r.tm++wd r.op.am)++tx r.op.ky)++tx r.op.va) r.op.ol (by simp only [lA,lC,lN,wd_length,hf_length,tx_length] at *;omega) (by omega) u) ?_))))))))))))))))))))))
 rintro d9 e0 ⟨e1,e2,rfl,x⟩
 refine Lo (Lud (Lm (Lt (La (Dz (GoQ.again (En (Lq (Ls (LT (Lk (Lt (Ls (Lb (Ls (Dz (Zaj (Hx 0 (3:Int) (4:Int) b 0 1 (Hl 1 1 3 x Hz)) (En (Lt (Lg [2] (Lw (Zc (text_spec ((((l++([(IntKind.u8.wrap r.cl:Int),(r.op.kd:Int)])++wd r.tm++wd r.op.am)++tx r.op.ky)++tx r.op.va)++tx r.op.ol) r.op.tx (by simp only [lA,lC,lN,wd_length,hf_length,tx_length] at *;omega) (by omega) x) ?_))))))))))))))))))))))
 rintro e3 e4 ⟨a0,a1,rfl,a6⟩
 refine Lo (Lud (Lm (Lt (La (Dz (GoQ.again (En (Lq (Ls (LF (Lx (LsC (LsL (Lh (Lt (Lq (Le (Dz (Zq1 (v:=.slice a0 ((((((l++([(IntKind.u8.wrap r.cl:Int),(r.op.kd:Int)])++wd r.tm++wd r.op.am)++tx r.op.ky)++tx r.op.va)++tx r.op.ol)++tx r.op.tx).length) a1) ?_)))))))))))))))))))
 have a7:=((((a6.pl 0).pl 3).pl 3).pl 3)
 have h9:((((l++([(IntKind.u8.wrap r.cl:Int),(r.op.kd:Int)])++wd r.tm++wd r.op.am)++tx r.op.ky)++tx r.op.va)++tx r.op.ol)++tx r.op.tx=l++rqB r:=by simp only [rqB,List.append_assoc]
 exact⟨a0,a1,by rw [h9],by rw [← h9];exact(a7.dr 3)⟩
def quorI (was:Int):List TPr→Bool
 | []=>true
 | p::l=>if p.rp≤was∨p.rp>11∨p.nm<1∨p.nm>65536 then false else quorI p.rp l
def quorB (l:List TPr):Bool:=quorI 0 l && decide ((l.length:Int)>0)
theorem quorI_at {l:List TPr}{k:Nat}(h:k<l.length) (was:Int):quorI was (l.drop k)=if (l.getD k dPr).rp≤was∨(l.getD k dPr).rp>11∨(l.getD k dPr).nm<1∨(l.getD k dPr).nm>65536 then false else quorI (l.getD k dPr).rp (l.drop (k+1)):=by
 rw [List.drop_eq_getElem_cons h,show l.getD k dPr=l[k] by rw [List.getD_eq_getElem?_getD,List.getElem?_eq_getElem h];rfl]
 rfl
theorem quorum_spec (l) (hll:l.length≤9223372036854775807) (hr:Rw w0 L TPr.cells 2 dPr ad l) (hs:St w0 (L) w):Cs Tryz.prog 185 #[.slice ad l.length c] w fun rv w'=>rv=.bool (quorB l)∧St w0 (L) w':=by
 refine Zen Tryz.func185 Tryz.ntmps185 (En (Lq (Lq (Ls (Lq (Lb (Dz (GoC.loop (T:=Nat×Int×(Option Addr)) (fun gg=>[(0,.slice ad l.length c),(3,.int .i64 gg.2.1),(6,.slice gg.2.2 l.length c),(7,.int .i64 (l.length:Nat)),(8,.int .i64 (gg.1:Nat))]) (fun gg w=>(gg.1≤l.length∧quorI 0 l=quorI gg.2.1 (l.drop gg.1)∧∀ w,St w0 L w→RowsAt w gg.2.2 l.length 2 (fun q=>TPr.cells (l.getD q dPr)))∧St w0 (L) w) (fun gg=>l.length-gg.1) (0,0,ad) [0,3,6,7,8] (by kernel_rfl) ⟨⟨Nat.zero_le _,rfl,hr⟩,hs⟩ ?_))))))))
 rintro⟨k,was,aq⟩ w1 ⟨hp,u⟩
 dsimp only at hp u
 have hw:=hp.2.2
 refine En (Lq (Ls (Dz (Zi ((k:Int)<(l.length:Nat)) (fun a1=>?_) (fun a1=>?_)))))
 ·have hk:k<l.length:=by omega
  obtain⟨d,e,rfl⟩:=RowsAt.isSome (hw _ (u.drop 0)) (by omega)
  refine Zk (Zt (Zs (Zb (Zs (Zgj [2,3] (Hx 0 (k:Int) (l.length:Int) d e 2 (Hg 1 (.agg (TPr.cells (l.getD k dPr))) [.prop (Array.size (TPr.cells (l.getD k dPr))=2),.cells ⟨d,e+(k*2),none⟩ (TPr.cells (l.getD k dPr))] (okp (by kernel_rfl) (oka (RowsAt.all0 (hw _ (u.drop 0)) (by first|omega|(simp only [List.length_set];omega)|(simp only [List.length_set,lA,lC,lN];omega)) (Nat.le_of_ble_eq_true (by kernel_rfl)) (by kernel_rfl)) ok0)) Hz)) (Zag (TPr.cells dPr) u fun o w8 a2=>Lo (Dz (Zu 0 0 (TPr.cells (l.getD k dPr)) a2 fun a9 f=>Lo (Ld (Lt (Ls (Ls (Dz (GoC.join (T:=Unit) (E:=fun _=>[(30,.bool ((((decide (((l.getD k dPr).rp:Int)≤was)) || (decide (((l.getD k dPr).rp:Int)>11))) || (decide (((l.getD k dPr).nm:Int)<1))) || (decide (((l.getD k dPr).nm:Int)>65536)))),(5,zP o 0),(0,.slice ad l.length c),(3,.int .i64 was),(6,zL d e l.length c),(7,.int .i64 (l.length:Nat)),(8,.int .i64 (k:Nat))]) (F:=fun _ w=>St w0 ((Cel o (TPr.cells (l.getD k dPr)) 143)::L) w) ?_ ?_))))))))))))))
  ·refine Zg [] (Zpj 0 5 (Hl 1 0 0 f Hz) (Zsq 16 (decide (((l.getD k dPr).rp:Int)≤was)) (fun a=>?_) (fun a=>?_)))
   ·exact En (Lud (Dz (GoQ.pick [30,5,0,3,6,7,8] (S':=[(30,.bool true),(5,zP o 0),(0,.slice ad l.length c),(3,.int .i64 was),(6,zL d e l.length c),(7,.int .i64 (l.length:Nat)),(8,.int .i64 (k:Nat))]) (by kernel_rfl) (GoQ.meet1 () (by first|rfl|(simp only [a,Bool.not_true,Bool.not_false,Bool.true_or,Bool.false_or,Bool.true_and,Bool.false_and,Bool.or_true,Bool.or_false,Bool.and_true,Bool.and_false];done)|(simp [a];done)) f))))
   ·refine Zpj 5 5 (Hl 6 0 0 f Hz) (Zsq 21 (decide (((l.getD k dPr).rp:Int)>11)) (fun b=>?_) (fun b=>?_))
    ·exact En (Lud (Dz (GoQ.pick [30,5,0,3,6,7,8] (S':=[(30,.bool true),(5,zP o 0),(0,.slice ad l.length c),(3,.int .i64 was),(6,zL d e l.length c),(7,.int .i64 (l.length:Nat)),(8,.int .i64 (k:Nat))]) (by kernel_rfl) (GoQ.meet1 () (by first|rfl|(simp only [a,b,Bool.not_true,Bool.not_false,Bool.true_or,Bool.false_or,Bool.true_and,Bool.false_and,Bool.or_true,Bool.or_false,Bool.and_true,Bool.and_false];done)|(simp [a,b];done)) f))))
    ·refine Zpj 10 5 (Hl 11 0 1 f Hz) (Zsq 26 (decide (((l.getD k dPr).nm:Int)<1)) (fun i=>?_) (fun i=>?_))
     ·exact En (Lud (Dz (GoQ.pick [30,5,0,3,6,7,8] (S':=[(30,.bool true),(5,zP o 0),(0,.slice ad l.length c),(3,.int .i64 was),(6,zL d e l.length c),(7,.int .i64 (l.length:Nat)),(8,.int .i64 (k:Nat))]) (by kernel_rfl) (GoQ.meet1 () (by first|rfl|(simp only [a,b,i,Bool.not_true,Bool.not_false,Bool.true_or,Bool.false_or,Bool.true_and,Bool.false_and,Bool.or_true,Bool.or_false,Bool.and_true,Bool.and_false];done)|(simp [a,b,i];done)) f))))
     ·exact Zjd (Hl 16 0 1 f Hz) (GoQ.pick [30,5,0,3,6,7,8] (S':=[(30,.bool (decide (((l.getD k dPr).nm:Int)>65536))),(5,zP o 0),(0,.slice ad l.length c),(3,.int .i64 was),(6,zL d e l.length c),(7,.int .i64 (l.length:Nat)),(8,.int .i64 (k:Nat))]) (by kernel_rfl) (GoQ.meet1 () (by first|rfl|(simp only [a,b,i,Bool.not_true,Bool.not_false,Bool.true_or,Bool.false_or,Bool.true_and,Bool.false_and,Bool.or_true,Bool.or_false,Bool.and_true,Bool.and_false];done)|(simp [a,b,i];done)) f))
  intro _ b0 z
  refine Zt (Zqc (t:=(((decide (((l.getD k dPr).rp:Int)≤was)) || (decide (((l.getD k dPr).rp:Int)>11))) || (decide (((l.getD k dPr).nm:Int)<1))) || (decide (((l.getD k dPr).nm:Int)>65536))) (fun x=>?_) (fun x=>?_))
  ·exact En (Lq (Le (Ly (Ll (Ly (LsR (Ll (Ly (Dz (Zq1 (v:=.bool false) ⟨(by unfold quorB;rw [hp.2.1,quorI_at hk,if_pos (by simp only [Bool.or_eq_true,decide_eq_true_eq] at x;omega)];rfl),(z.dr 1)⟩))))))))))
  ·have a0:=(Bool.or_eq_false_iff.1 x).1
   have h17aa:=(Bool.or_eq_false_iff.1 a0).1
   have h17aaa:=(Bool.or_eq_false_iff.1 h17aa).1
   have h17aaa':=of_decide_eq_false h17aaa
   have h17aab:=(Bool.or_eq_false_iff.1 h17aa).2
   have h17aab':=of_decide_eq_false h17aab
   have h17ab:=(Bool.or_eq_false_iff.1 a0).2
   have h17ab':=of_decide_eq_false h17ab
   have a7:=(Bool.or_eq_false_iff.1 x).2
   have b1:=of_decide_eq_false a7
   exact Zk (Zt (Zaj (Hl 1 0 0 z Hz) (Zm (Zt (Zaj (Hwi 0 ((k:Nat)+1) Hz) (GoQ.back (k+1,(l.getD k dPr).rp,some ⟨d,e,none⟩) [0,3,6,7,8] (by kernel_rfl) (by show l.length-(k+1)<l.length-k;omega) ⟨⟨by omega,by rw [hp.2.1,quorI_at hk,if_neg (by omega)],hw⟩,(z.dr 1)⟩))))))
 ·have hke:l.drop k=[]:=List.drop_of_length_le (by omega)
  exact En (Lx (LsC (LsL (Lh (Lt (Lq (Le (Dz (Zq1 (v:=.bool (decide ((l.length:Int)>0))) ⟨(by unfold quorB;rw [hp.2.1,hke];rfl),u⟩)))))))))
def kB (x:TBd):Bool :=
 (decide ((x.k:Int) ≥ 1)) && (decide ((x.k:Int)≤4611686018427387904))
theorem k_spec (x) (hs:St w0 (L) w):Cs Tryz.prog 180 #[.agg (TBd.cells x)] w fun rv w'=>rv=.bool (kB x)∧St w0 (L) w':=by
 refine Zen Tryz.func180 Tryz.ntmps180 (En (Ls (Lg [0] (Dz (Zbg (TBd.cells x) hs fun e o b=>Lz (Ls (Dz (GoC.join (T:=Unit) (E:=fun _=>[(2,.bool ((decide ((x.k:Int) ≥ 1)) && (decide ((x.k:Int)≤4611686018427387904))))]) (F:=fun _ w=>St w0 ((Cel e (TBd.cells x) 37)::L) w) ?_ ?_))))))))
 ·refine Zg [] (Zpj 0 4 (Hl 1 0 2 b Hz) (Zsq 6 (decide ((x.k:Int) ≥ 1)) (fun a=>?_) (fun a=>?_)))
  ·exact Zjd (Hl 5 0 2 b Hz) (Zmb [2] () (decide ((x.k:Int)≤4611686018427387904)) (by first|rfl|simp [Hb,a]) b)
  ·exact En (Lud (Dz (Zmb [2] () false (by first|rfl|simp [Hb,a]) b)))
 intro _ q i
 exact Zt (Ze (Zq1 (v:=.bool ((decide ((x.k:Int) ≥ 1)) && (decide ((x.k:Int)≤4611686018427387904)))) (Zfb (by rw [kB]) (i.dr 1))))
end
section
variable {w0 w : World} {L : List Asn} {ad : Option Addr} {c : Nat}
structure BdOK (x:TBd):Prop where
 kd:0≤x.kd∧x.kd≤255
 vw:0≤x.vw∧x.vw≤18446744073709551615
 k:0≤x.k∧x.k≤18446744073709551615
 rq:RqOK x.rq
 ql:∀ p∈x.ql,(-9223372036854775808≤p.rp∧p.rp≤9223372036854775807)∧(0≤p.nm∧p.nm≤18446744073709551615)
 dg:∀ z∈x.dg.toList,0≤z∧z<256
 qn:x.ql.length≤9223372036854775807
def mayB (x:TBd):Bool :=
 if x.kd=1 then askedB x.rq else if x.kd=2∨x.kd=6 then kB x else if x.kd=4 then decide (x.vw ≥ 1) && quorB x.ql else decide (x.vw ≥ 1)
def prB (p:TPr):List Int:=[IntKind.u8.wrap p.rp]++wd p.nm
theorem prB_length (p:TPr):(prB p).length=9:=by rw [prB,lA,wd_length];rfl
theorem prsB_length:∀ l:List TPr,(l.flatMap prB).length=9*l.length
 | []=>rfl
 | p::l=>by rw [List.flatMap_cons,lA,prB_length,prsB_length l,lC];omega
def bd1 (x:TBd):List Int:=wd x.vw++(rqB x.rq++x.rq.tg.toList)
def bd2 (x:TBd):List Int:=wd x.vw++wd x.k
def bd4 (x:TBd):List Int:=wd x.vw++([IntKind.u8.wrap (x.ql.length:Nat)]++x.ql.flatMap prB)
def bd6 (x:TBd):List Int:=wd x.k++x.dg.toList
def bdB (x:TBd):List Int:=if x.kd=1 then bd1 x else if x.kd=2 then bd2 x else if x.kd=4 then bd4 x else if x.kd=6 then bd6 x else wd x.vw
theorem askedB_sz {r:TRq}(h:askedB r=true):RqSz r:=by
 unfold askedB at h
 repeat' split at h
 all_goals first|(cases h;done)|skip
 all_goals simp only [decide_eq_true_eq,Bool.and_eq_true] at *
 all_goals exact⟨by omega,by omega,by omega,by omega⟩
theorem may1_spec (x) (hs:St w0 (L) w):Cs Tryz.prog 176 #[.agg (TBd.cells x)] w fun rv w'=>rv=.bool (askedB x.rq)∧St w0 (L) w':=by
 exact Zen Tryz.func176 Tryz.ntmps176 (En (Ls (Lg [0] (Dz (Zbg (TBd.cells x) hs fun e f a=>Lz (Ls (Dz (Zgj [2] (Hla 1 0 3 40 (TRq.cells x.rq) a Hz) (Zc1 (asked_spec x.rq a) fun o b=>Lz (Le (Dz (Zq1 (v:=.bool (askedB x.rq)) ⟨rfl,(b.dr 1)⟩))))))))))))
theorem may3_spec (x) (hs:St w0 (L) w):Cs Tryz.prog 236 #[.agg (TBd.cells x)] w fun rv w'=>rv=.bool (decide ((x.vw:Int) ≥ 1))∧St w0 (L) w':=by
 exact Zen Tryz.func236 Tryz.ntmps236 (En (Ls (Lg [0] (Dz (Zbg (TBd.cells x) hs fun d e a=>Lz (Ls (Dz (Zaj (Hl 1 0 1 a Hz) (Zt (Ze (Zq1 (v:=.bool (decide ((x.vw:Int) ≥ 1))) ⟨rfl,(a.dr 1)⟩)))))))))))
theorem may4_spec (x) (hqn:x.ql.length≤9223372036854775807) (hr:Rw w0 L TPr.cells 2 dPr x.qa x.ql) (hs:St w0 (L) w):Cs Tryz.prog 184 #[.agg (TBd.cells x)] w fun rv w'=>rv=.bool (decide ((x.vw:Int) ≥ 1) && quorB x.ql)∧St w0 (L) w':=by
 refine Zen Tryz.func184 Tryz.ntmps184 (En (Ls (Lg [0] (Dz (Zbg (TBd.cells x) hs fun q u b=>Lz (Ls (Lg [6] (Dz (Zpj 0 4 (Hl 1 0 1 b Hz) (Zsq 6 (decide ((x.vw:Int) ≥ 1)) (fun a=>?_) (fun a=>?_)))))))))))
 ·refine Zj (Hl 5 0 43 b Hz) (Zqa (f:=185) (args:=#[.slice x.qa x.ql.length x.qc]) Tryz.call185 (quorum_spec x.ql (by first|assumption|omega) (fun w h=>hr _ (h.drop 1)) b) ?_)
  rintro z w7 ⟨rfl,e⟩
  exact Lz (Le (Dz (Zq1 (v:=.bool (quorB x.ql)) ⟨(by rw [a];rfl),(e.dr 1)⟩)))
 ·exact En (Lw (Zsk (En (Lud (Lt (Le (Dz (Zq1 (v:=.bool false) ⟨(by rw [a];rfl),(b.dr 1)⟩))))))))
theorem put1_spec (l) (x) (hl:l.length≤90000) (hx:BdOK x) (hz:RqSz x.rq) (hs:St w0 ((Sl ad c 5 1 byteC l)::L) w):Cs Tryz.prog 172 #[.slice ad l.length c,.agg (TBd.cells x)] w fun rv w'=>∃ ao co,rv=.slice ao ((l++bd1 x).length) co∧St w0 ((Sl ao co 5 1 byteC (l++bd1 x))::L) w':=by
 refine Zen Tryz.func172 Tryz.ntmps172 (Zs ?_)
 have a4:=hx.vw
 have hrl:=rqB_length hz
 refine Zg [0] (Zbg (TBd.cells x) hs fun a w2 q=>Lz (Ls (Dz (ZD (rds [0,1,2,4,5,7,8,9] (.ef 3 (.ef 6 (.ef 10 (.rd 11 .done))))) q fun w4 b a5=>Zj (Hl 2 0 1 b (Hla 5 0 3 40 (TRq.cells x.rq) b (Hg 9 (.as_ (zL a 11 ((x.rq.tg.toList).length) 32) (.sub 0 32)) [.prop ((((none:Option Operand))=none→(0:Nat)=0)∧(((none:Option Operand))=none→(32:Nat)=32)∧(0:Nat)≤32∧(32:Nat)≤32),.prop (Value.slice (some (if 32=0 then Addr.mk a 11 none else (Addr.mk a 11 none).add (0*1))) (32-0) (32-0)=Value.slice (some ⟨a,11,none⟩) ((x.rq.tg.toList).length) 32)] (okp ⟨(by first|(intro _;rfl)|(intro hc;cases hc)),(by first|(intro _;rfl)|(intro hc;cases hc)),(by omega),(by omega)⟩ (okp (by rw [D32.len];exact subArr0 _ _ _ _ _ (by decide)) ok0)) Hz))) (Zc (word_spec l x.vw (by first|omega|(simp only [lA,lC,lN,wd_length] at *;omega)) (by omega) (b.pl 1)) ?_)))))
 rintro a6 a7 ⟨a8,a9,rfl,d⟩
 refine⟨(opl (n:=[.prop ((((none:Option Operand))=none→(0:Nat)=0)∧(((none:Option Operand))=none→(32:Nat)=32)∧(0:Nat)≤32∧(32:Nat)≤32),.prop (Value.slice (some (if 32=0 then Addr.mk a 11 none else (Addr.mk a 11 none).add (0*1))) (32-0) (32-0)=Value.slice (some ⟨a,11,none⟩) ((x.rq.tg.toList).length) 32),.prop (Array.size (TRq.cells x.rq)=40),.cells ⟨a,3,none⟩ (TRq.cells x.rq)]) (by kernel_rfl) (okp ⟨(by first|(intro _;rfl)|(intro hc;cases hc)),(by first|(intro _;rfl)|(intro hc;cases hc)),(by omega),(by omega)⟩ (okp (by rw [D32.len];exact subArr0 _ _ _ _ _ (by decide)) (okp (by kernel_rfl) (oka (d.cells 1 3 rfl (by kernel_rfl)) ok0))))),(Zc (request_spec (l++wd x.vw) x.rq (by simp only [lA,lC,lN,wd_length,hf_length,D32.len,prsB_length] at *;omega) hx.rq hz d) ?_)⟩
 rintro b0 b2 ⟨z,a0,rfl,e⟩
 refine⟨(opl (n:=[.prop ((((none:Option Operand))=none→(0:Nat)=0)∧(((none:Option Operand))=none→(32:Nat)=32)∧(0:Nat)≤32∧(32:Nat)≤32),.prop (Value.slice (some (if 32=0 then Addr.mk a 11 none else (Addr.mk a 11 none).add (0*1))) (32-0) (32-0)=Value.slice (some ⟨a,11,none⟩) ((x.rq.tg.toList).length) 32)]) (by kernel_rfl) (okp ⟨(by first|(intro _;rfl)|(intro hc;cases hc)),(by first|(intro _;rfl)|(intro hc;cases hc)),(by omega),(by omega)⟩ (okp (by rw [D32.len];exact subArr0 _ _ _ _ _ (by decide)) ok0))),(GoR.append rfl (by kernel_rfl) bytesOK byteF (ad:=z) (c:=a0) (xs:=(l++wd x.vw)++rqB x.rq) (ys:=x.rq.tg.toList) (adx:=some ⟨a,11,none⟩) (cx:=32) (0:Int) (by kernel_rfl) e (D32.mid e 1 11 x.rq.tg rfl (by kernel_rfl)) (fun h=>nomatch h) (by simp only [lA,lC,lN,wd_length,hf_length,D32.len,prsB_length] at *;omega) (by simp only [lA,lC,lN,wd_length,hf_length,D32.len,prsB_length] at *;omega) fun f i b3 a1=>Lz (Le (Dz (Zq1 (v:=.slice f ((((l++wd x.vw)++rqB x.rq)++x.rq.tg.toList).length) i) ?_))))⟩
 have a2:=((a1.pl 0).pl 1)
 have o:((l++wd x.vw)++rqB x.rq)++x.rq.tg.toList=l++bd1 x:=by simp only [bd1,bd2,bd4,bd6,List.append_assoc]
 exact⟨f,i,by rw [o],by rw [← o];exact(a2.dr 1)⟩
theorem put2_spec (l) (x) (hl:l.length≤90000) (hx:BdOK x) (hs:St w0 ((Sl ad c 5 1 byteC l)::L) w):Cs Tryz.prog 178 #[.slice ad l.length c,.agg (TBd.cells x)] w fun rv w'=>∃ ao co,rv=.slice ao ((l++bd2 x).length) co∧St w0 ((Sl ao co 5 1 byteC (l++bd2 x))::L) w':=by
 refine Zen Tryz.func178 Tryz.ntmps178 (Zs ?_)
 have a1:=hx.vw
 have a2:=hx.k
 refine Zg [0] (Zbg (TBd.cells x) hs fun i w2 o=>Lz (Ls (Dz (ZD (rds [0,1,2,4,5] (.ef 3 (.ef 6 (.rd 7 .done)))) o fun w4 a a3=>Zj (Hl 2 0 1 a (Hl 5 0 2 a Hz)) (Zc (word_spec l x.vw (by first|omega|(simp only [lA,lC,lN,wd_length] at *;omega)) (by omega) (a.pl 1)) ?_)))))
 rintro a4 a5 ⟨a6,a7,rfl,b⟩
 refine⟨(opl (n:=[.cell ⟨i,2,none⟩ (.int .u64 x.k)]) (by kernel_rfl) (okc (b.cell 1 rfl (by kernel_rfl)) ok0)),(Zc (word_spec (l++wd x.vw) x.k (by first|omega|(simp only [lA,lC,lN,wd_length] at *;omega)) (by omega) b) ?_)⟩
 rintro a8 a9 ⟨d,e,rfl,u⟩
 refine Lz (Le (Dz (Zq1 (v:=.slice d ((l++wd x.vw++wd x.k).length) e) ?_)))
 have z:=((u.pl 0).pl 1)
 have f:l++wd x.vw++wd x.k=l++bd2 x:=by simp only [bd1,bd2,bd4,bd6,List.append_assoc]
 exact⟨d,e,by rw [f],by rw [← f];exact(z.dr 1)⟩
theorem put3_spec (l) (x) (hl:l.length≤90000) (hx:BdOK x) (hs:St w0 ((Sl ad c 5 1 byteC l)::L) w):Cs Tryz.prog 234 #[.slice ad l.length c,.agg (TBd.cells x)] w fun rv w'=>∃ ao co,rv=.slice ao ((l++wd x.vw).length) co∧St w0 ((Sl ao co 5 1 byteC (l++wd x.vw))::L) w':=by
 refine Zen Tryz.func234 Tryz.ntmps234 (Zs ?_)
 have u:=hx.vw
 have z:=hx.k
 refine Zg [0] (Zbg (TBd.cells x) hs fun b1 w2 a=>Lz (Ls (Dz (Zgj [3] (Hl 2 0 1 a Hz) (Zc (word_spec l x.vw (by first|omega|(simp only [lA,lC,lN,wd_length] at *;omega)) (by omega) (a.pl 1)) ?_)))))
 rintro v8 w9 ⟨b,d,rfl,i⟩
 refine Lz (Le (Dz (Zq1 (v:=.slice b ((l++wd x.vw).length) d) ?_)))
 have o:=((i.pl 0).pl 1)
 have e:l++wd x.vw=l++wd x.vw:=by simp only [bd1,bd2,bd4,bd6,List.append_assoc]
 exact⟨b,d,by rw [e],by rw [← e];exact(o.dr 1)⟩
theorem put6_spec (l) (x) (hl:l.length≤90000) (hx:BdOK x) (hs:St w0 ((Sl ad c 5 1 byteC l)::L) w):Cs Tryz.prog 186 #[.slice ad l.length c,.agg (TBd.cells x)] w fun rv w'=>∃ ao co,rv=.slice ao ((l++bd6 x).length) co∧St w0 ((Sl ao co 5 1 byteC (l++bd6 x))::L) w':=by
 refine Zen Tryz.func186 Tryz.ntmps186 (Zs ?_)
 have a3:=hx.vw
 have a4:=hx.k
 refine Zg [0] (Zbg (TBd.cells x) hs fun a w2 o=>Lz (Ls (Dz (ZD (rds [0,1,2,4,5] (.ef 3 (.ef 6 (.rd 7 .done)))) o fun w4 b a5=>Zj (Hl 2 0 2 b (Hg 5 (.as_ (zL a 44 ((x.dg.toList).length) 32) (.sub 0 32)) [.prop ((((none:Option Operand))=none→(0:Nat)=0)∧(((none:Option Operand))=none→(32:Nat)=32)∧(0:Nat)≤32∧(32:Nat)≤32),.prop (Value.slice (some (if 32=0 then Addr.mk a 44 none else (Addr.mk a 44 none).add (0*1))) (32-0) (32-0)=Value.slice (some ⟨a,44,none⟩) ((x.dg.toList).length) 32)] (okp ⟨(by first|(intro _;rfl)|(intro hc;cases hc)),(by first|(intro _;rfl)|(intro hc;cases hc)),(by omega),(by omega)⟩ (okp (by rw [D32.len];exact subArr0 _ _ _ _ _ (by decide)) ok0)) Hz)) (Zc (word_spec l x.k (by first|omega|(simp only [lA,lC,lN,wd_length] at *;omega)) (by omega) (b.pl 1)) ?_)))))
 rintro a6 a7 ⟨u,z,rfl,d⟩
 refine⟨(opl (n:=[.prop ((((none:Option Operand))=none→(0:Nat)=0)∧(((none:Option Operand))=none→(32:Nat)=32)∧(0:Nat)≤32∧(32:Nat)≤32),.prop (Value.slice (some (if 32=0 then Addr.mk a 44 none else (Addr.mk a 44 none).add (0*1))) (32-0) (32-0)=Value.slice (some ⟨a,44,none⟩) ((x.dg.toList).length) 32)]) (by kernel_rfl) (okp ⟨(by first|(intro _;rfl)|(intro hc;cases hc)),(by first|(intro _;rfl)|(intro hc;cases hc)),(by omega),(by omega)⟩ (okp (by rw [D32.len];exact subArr0 _ _ _ _ _ (by decide)) ok0))),(GoR.append rfl (by kernel_rfl) bytesOK byteF (ad:=u) (c:=z) (xs:=l++wd x.k) (ys:=x.dg.toList) (adx:=some ⟨a,44,none⟩) (cx:=32) (0:Int) (by kernel_rfl) d (D32.mid d 1 44 x.dg rfl (by kernel_rfl)) (fun h=>nomatch h) (by simp only [lA,lC,lN,wd_length,hf_length,D32.len,prsB_length] at *;omega) (by simp only [lA,lC,lN,wd_length,hf_length,D32.len,prsB_length] at *;omega) fun e f a8 a0=>Lz (Le (Dz (Zq1 (v:=.slice e (((l++wd x.k)++x.dg.toList).length) f) ?_))))⟩
 have a1:=((a0.pl 0).pl 1)
 have i:(l++wd x.k)++x.dg.toList=l++bd6 x:=by simp only [bd1,bd2,bd4,bd6,List.append_assoc]
 exact⟨e,f,by rw [i],by rw [← i];exact(a1.dr 1)⟩
theorem put4_spec (l) (x) (hl:l.length≤90000) (hx:BdOK x) (hlq:x.ql.length≤1000) (hr:Rw w0 L TPr.cells 2 dPr x.qa x.ql) (hs:St w0 ((Sl ad c 5 1 byteC l)::L) w):Cs Tryz.prog 182 #[.slice ad l.length c,.agg (TBd.cells x)] w fun rv w'=>∃ ao co,rv=.slice ao ((l++bd4 x).length) co∧St w0 ((Sl ao co 5 1 byteC (l++bd4 x))::L) w':=by
 refine Zen Tryz.func182 Tryz.ntmps182 (Zs ?_)
 have d9:=hx.vw
 have e0:=hx.k
 refine Zg [0] (Zbg (TBd.cells x) hs fun a w2 b2=>Lz (Ls (Dz (GoC.join (T:=Option Addr×Nat×Nat) (E:=fun jx=>[(0,.slice jx.1 (((l++wd x.vw)++([(IntKind.u8.wrap (x.ql.length:Nat):Int)])).length) jx.2.1),(3,zP a 0),(4,.slice none 0 0)]) (F:=fun jx w=>St w0 ((Sl jx.1 jx.2.1 5 1 byteC ((l++wd x.vw)++([(IntKind.u8.wrap (x.ql.length:Nat):Int)])))::(Sl (some ⟨jx.2.2,0,none⟩) 1 5 1 byteC ([(IntKind.u8.wrap (x.ql.length:Nat):Int)]))::(Cel a (TBd.cells x) 37)::L) w) ?_ ?_))))
 ·refine GoC.regD [0,0,2,7,0,16,48,112,240,511,1023] (.rd 0 (.rd 1 (.rd 2 (.rd 4 (.rd 5 (.rd 6 (.rd 7 (.alt (.ef 3 (.ef 8 (.ef 9 (.rd 10 .done)))) (.ef 8 (.ef 3 (.ef 9 (.rd 10 .done)))))))))))) (by kernel_rfl) (by kernel_rfl) noPan_body (by kernel_rfl) b2 fun w4 u e1=>Zh [(0,.gen []),(1,.gen []),(2,.gen [.int .u64 x.vw]),(4,.gen []),(5,.gen [.slice x.qa x.ql.length x.qc]),(6,.gen []),(7,.gen [])] [(2,[.cell ⟨a,1,none⟩ (.int .u64 x.vw)]),(5,[.cell ⟨a,43,none⟩ (.slice x.qa x.ql.length x.qc)])] (ak (okc (u.cell 0 rfl (by kernel_rfl)) ok0) (ak (okc (u.cell 0 rfl (by kernel_rfl)) ok0) ak0)) (GoR.alt ?_ ?_)
  ·refine Zc (word_spec l x.vw (by first|omega|(simp only [lA,lC,lN,wd_length] at *;omega)) (by omega) (u.pl 1)) ?_
   rintro e2 e3 ⟨e4,e5,rfl,a2⟩
   exact⟨(opl (n:=[.cell ⟨a,43,none⟩ (.slice x.qa x.ql.length x.qc)]) (by kernel_rfl) (okc (a2.cell 1 rfl (by kernel_rfl)) ok0)),(Zll bytesOK byteF [(IntKind.u8.wrap (x.ql.length:Nat):Int)] a2 fun b4 e6 a3=>⟨(opl (n:=[.cell ⟨a,1,none⟩ (.int .u64 x.vw)]) (by kernel_rfl) (okc (a3.cell 2 rfl (by kernel_rfl)) ok0)),(Zap bytesOK byteF (0:Int) (a3.pl 1) (by simp only [lA,lC,lN,wd_length,hf_length,D32.len,prsB_length] at *;omega) fun b6 b7 e7 b8=>Lo (Dz (Zr 10 1 [] (Zd (Zme [0,3,4] (b6,b7,b4) b8)))))⟩)⟩
  refine Zll bytesOK byteF [(IntKind.u8.wrap (x.ql.length:Nat):Int)] u fun b9 e8 a4=>⟨(opl (n:=[.cell ⟨a,1,none⟩ (.int .u64 x.vw)]) (by kernel_rfl) (okc (a4.cell 1 rfl (by kernel_rfl)) ok0)),(Zc (word_spec l x.vw (by first|omega|(simp only [lA,lC,lN,wd_length] at *;omega)) (by omega) (a4.pl 2)) ?_)⟩
  rintro e9 f0 ⟨f1,f2,rfl,a5⟩
  exact⟨(opl (n:=[.cell ⟨a,43,none⟩ (.slice x.qa x.ql.length x.qc)]) (by kernel_rfl) (okc (a5.cell 2 rfl (by kernel_rfl)) ok0)),(Zap bytesOK byteF (0:Int) a5 (by simp only [lA,lC,lN,wd_length,hf_length,D32.len,prsB_length] at *;omega) fun c2 c3 f3 c4=>Lo (Dz (Zr 10 1 [] (Zd (Zme [0,3,4] (c2,c3,b9) c4)))))⟩
 rintro⟨b,e,c5⟩ c6 c7
 have a6:St w0 ((Sl b e 5 1 byteC ((l++wd x.vw)++([(IntKind.u8.wrap (x.ql.length:Nat):Int)])))::(Sl (some ⟨c5,0,none⟩) 1 5 1 byteC ([(IntKind.u8.wrap (x.ql.length:Nat):Int)]))::(Cel a (TBd.cells x) 37)::L) c6:=c7
 refine GoQ.slots (S':=[(0,.slice b (((l++wd x.vw)++([(IntKind.u8.wrap (x.ql.length:Nat):Int)])).length) e),(3,zP a 0),(4,.slice none 0 0)]) rfl (Zt (Zs (Zs (Zaj (Hl 1 2 43 a6 Hz) (Zt (Zb ?_))))))
 have c8:=(((a6.pl 0).pl 2).pl 2)
 refine Zn [(20,.int .i64 0),(19,.int .i64 (x.ql.length:Nat)),(18,.slice x.qa x.ql.length x.qc),(0,.slice b (((l++wd x.vw)++([(IntKind.u8.wrap (x.ql.length:Nat):Int)])).length) e),(4,.slice none 0 0)] (GoC.slots (S':=[(20,.int .i64 0),(19,.int .i64 (x.ql.length:Nat)),(18,.slice x.qa x.ql.length x.qc),(0,.slice b (((l++(wd x.vw++[IntKind.u8.wrap (x.ql.length:Nat)]))++(x.ql.take 0).flatMap prB).length) e),(4,.slice none 0 0)]) (by rw [(show(l++wd x.vw)++([(IntKind.u8.wrap (x.ql.length:Nat):Int)])=(l++(wd x.vw++[IntKind.u8.wrap (x.ql.length:Nat)]))++(x.ql.take 0).flatMap prB by simp only [List.append_assoc,List.take_zero,List.flatMap_nil,List.append_nil])]) (GoC.loop (T:=Nat×(Option Addr)×(Option Addr)×Nat) (fun gg=>[(0,.slice gg.2.2.1 (((l++(wd x.vw++[IntKind.u8.wrap (x.ql.length:Nat)]))++(x.ql.take gg.1).flatMap prB).length) gg.2.2.2),(4,.slice none 0 0),(18,.slice gg.2.1 x.ql.length x.qc),(19,.int .i64 (x.ql.length:Nat)),(20,.int .i64 (gg.1:Nat))]) (fun gg w=>(gg.1≤x.ql.length∧∀ w,St w0 L w→RowsAt w gg.2.1 x.ql.length 2 (fun q=>TPr.cells (x.ql.getD q dPr)))∧St w0 ((Sl gg.2.2.1 gg.2.2.2 5 1 byteC ((l++(wd x.vw++[IntKind.u8.wrap (x.ql.length:Nat)]))++(x.ql.take gg.1).flatMap prB))::L) w) (fun gg=>x.ql.length-gg.1) (0,x.qa,b,e) [0,4,18,19,20] (by kernel_rfl) ⟨⟨Nat.zero_le _,hr⟩,(Zsr (c8.dr 2) (show(l++wd x.vw)++([(IntKind.u8.wrap (x.ql.length:Nat):Int)])=(l++(wd x.vw++[IntKind.u8.wrap (x.ql.length:Nat)]))++(x.ql.take 0).flatMap prB by simp only [List.append_assoc,List.take_zero,List.flatMap_nil,List.append_nil]))⟩ ?_))
 rintro⟨k,aq,a7,c1⟩ f4 ⟨hp,f⟩
 dsimp only at hp f
 have hw:=hp.2
 refine En (Lq (Ls (Dz (Zi ((k:Int)<(x.ql.length:Nat)) (fun d1=>?_) (fun d1=>?_)))))
 ·have hk:k<x.ql.length:=by omega
  have hpk:=hx.ql _ (getD_mem (d:=dPr) hk)
  have htk:(x.ql.take k).length=k:=by rw [List.length_take];omega
  have hfk:=prsB_length (x.ql.take k)
  obtain⟨i,o,rfl⟩:=RowsAt.isSome (hw _ (f.drop 1)) (by omega)
  refine Zk (Zt (Zs (Zb (Zs (Zgj [2,3] (Hx 0 (k:Int) (x.ql.length:Int) i o 2 (Hg 1 (.agg (TPr.cells (x.ql.getD k dPr))) [.prop (Array.size (TPr.cells (x.ql.getD k dPr))=2),.cells ⟨i,o+(k*2),none⟩ (TPr.cells (x.ql.getD k dPr))] (okp (by kernel_rfl) (oka (RowsAt.all0 (hw _ (f.drop 1)) (by first|omega|(simp only [List.length_set];omega)|(simp only [List.length_set,lA,lC,lN];omega)) (Nat.le_of_ble_eq_true (by kernel_rfl)) (by kernel_rfl)) ok0)) Hz)) (Zag (TPr.cells dPr) f fun a8 f5 d2=>Lo (Dz (Zu 0 0 (TPr.cells (x.ql.getD k dPr)) d2 fun f6 d3=>Lo (Ld (Lt (Dz (ZD (rds [0,1,2,3,6,7] (.ef 4 (.ef 5 (.ef 8 (.rd 9 .done))))) d3 fun f7 z f8=>Zj (Hl 2 0 0 z (Hl 7 0 1 z Hz)) (Zll bytesOK byteF [(IntKind.u8.wrap ((x.ql.getD k dPr).rp):Int)] z fun f9 g0 a9=>⟨(opl (n:=[.cell ⟨a8,1,none⟩ (.int .u64 ((x.ql.getD k dPr).nm))]) (by kernel_rfl) (okc (a9.cell 1 rfl (by kernel_rfl)) ok0)),(Zap bytesOK byteF (0:Int) (a9.pl 2) (by simp only [lA,lC,lN,wd_length,hf_length,D32.len,prsB_length] at *;omega) fun g5 g7 g8 b0=>⟨(opl (n:=[.cell ⟨a8,1,none⟩ (.int .u64 ((x.ql.getD k dPr).nm))]) (by kernel_rfl) (okc (b0.cell 2 rfl (by kernel_rfl)) ok0)),(Zc (word_spec (((l++(wd x.vw++[IntKind.u8.wrap (x.ql.length:Nat)]))++(x.ql.take k).flatMap prB)++([(IntKind.u8.wrap ((x.ql.getD k dPr).rp):Int)])) ((x.ql.getD k dPr).nm) (by first|omega|(simp only [lA,lC,lN,wd_length] at *;omega)) (by omega) b0) ?_)⟩)⟩)))))))))))))
  rintro g9 h0 ⟨a0,a1,rfl,d5⟩
  refine Lo (Lud (Lm (Lt (Dz (Zaj (Hwi 0 ((k:Nat)+1) Hz) ?_)))))
  have d6:=(((d5.pl 0).pl 2).pl 2)
  exact GoQ.pick [20,0,4,18,19] (S':=[(20,.int .i64 ((k:Nat)+1)),(0,.slice a0 ((((l++(wd x.vw++[IntKind.u8.wrap (x.ql.length:Nat)]))++(x.ql.take k).flatMap prB)++([(IntKind.u8.wrap ((x.ql.getD k dPr).rp):Int)])++wd ((x.ql.getD k dPr).nm)).length) a1),(4,.slice none 0 0),(18,zL i o x.ql.length x.qc),(19,.int .i64 (x.ql.length:Nat))]) (by kernel_rfl) (GoQ.slots (S':=[(20,.int .i64 ((k:Nat)+1)),(0,.slice a0 (((l++(wd x.vw++[IntKind.u8.wrap (x.ql.length:Nat)]))++(x.ql.take (k+1)).flatMap prB).length) a1),(4,.slice none 0 0),(18,zL i o x.ql.length x.qc),(19,.int .i64 (x.ql.length:Nat))]) (by rw [(show((l++(wd x.vw++[IntKind.u8.wrap (x.ql.length:Nat)]))++(x.ql.take k).flatMap prB)++([(IntKind.u8.wrap ((x.ql.getD k dPr).rp):Int)])++wd ((x.ql.getD k dPr).nm)=(l++(wd x.vw++[IntKind.u8.wrap (x.ql.length:Nat)]))++(x.ql.take (k+1)).flatMap prB by rw [take_succ_getD (d:=dPr) hk,List.flatMap_append];simp only [List.append_assoc,List.flatMap_cons,List.flatMap_nil,List.append_nil,prB])]) (GoQ.back (k+1,some ⟨i,o,none⟩,a0,a1) [0,4,18,19,20] (by kernel_rfl) (by show x.ql.length-(k+1)<x.ql.length-k;omega) ⟨⟨by omega,hw⟩,(Zsr (d6.dr 2) (show((l++(wd x.vw++[IntKind.u8.wrap (x.ql.length:Nat)]))++(x.ql.take k).flatMap prB)++([(IntKind.u8.wrap ((x.ql.getD k dPr).rp):Int)])++wd ((x.ql.getD k dPr).nm)=(l++(wd x.vw++[IntKind.u8.wrap (x.ql.length:Nat)]))++(x.ql.take (k+1)).flatMap prB by rw [take_succ_getD (d:=dPr) hk,List.flatMap_append];simp only [List.append_assoc,List.flatMap_cons,List.flatMap_nil,List.append_nil,prB]))⟩))
 ·have hke:x.ql.take k=x.ql:=List.take_of_length_le (by omega)
  refine En (Lx (LsC (LsL (Lh (Lt (Lq (Le (Dz (Zq1 (v:=.slice a7 (((l++(wd x.vw++[IntKind.u8.wrap (x.ql.length:Nat)]))++(x.ql.take k).flatMap prB).length) c1) ?_)))))))))
  have h9:(l++(wd x.vw++[IntKind.u8.wrap (x.ql.length:Nat)]))++(x.ql.take k).flatMap prB=l++bd4 x:=by rw [hke];simp only [bd4,List.append_assoc]
  exact⟨a7,c1,by rw [h9],by rw [← h9];exact f⟩
end
section
variable {w0 w : World} {L : List Asn} {c : Nat} {az : Option Addr} {cz : Nat}
def g1 (s:CS):TBd×CS :=
 let a:=wordP s
 let b:=rqP a.2
 (⟨1,a.1,0,b.1,none,0,[],dD32⟩,b.2)
def g2 (s:CS):TBd×CS :=
 let a:=wordP s
 let b:=wordP a.2
 (⟨2,a.1,b.1,dRq,none,0,[],dD32⟩,b.2)
def g3 (kd:Int) (s:CS):TBd×CS :=
 let a:=wordP s
 (⟨kd,a.1,0,dRq,none,0,[],dD32⟩,a.2)
def prsP:Nat→CS→List TPr→List TPr×CS
 | 0,s,q=>(q,s)
 | n+1,s,q=>if s.2=true then (q,s) else prsP n (wordP (byteP s).2).2 (q++[⟨(byteP s).1,(wordP (byteP s).2).1⟩])
def g4 (s:CS):TBd×CS :=
 let a:=wordP s
 let n:=byteP a.2
 let q:=prsP n.1.toNat n.2 []
 (⟨4,a.1,0,dRq,none,0,q.1,dD32⟩,q.2)
def g6 (s:CS):TBd×CS :=
 let a:=wordP s
 let b:=hashP a.2
 (⟨6,0,a.1,dRq,none,0,[],b.1⟩,b.2)
def getB (kd:Int) (s:CS):TBd×CS:=if kd=1 then g1 s else if kd=2 then g2 s else if kd=4 then g4 s else if kd=6 then g6 s else g3 kd s
def con (x:TBd):TBd:=⟨x.kd,x.vw,x.k,x.rq,none,0,x.ql,x.dg⟩
theorem dD32_ok:∀ z∈dD32.toList,0≤z∧z<256:=by decide
theorem dRq_ok:RqOK dRq:=⟨by decide,by decide,by decide,by decide,dD32_ok⟩
theorem get1Y_spec {y:Nat}(Q) (r) (sp) (kd) (hQ:∀ w,St w0 L w→Q.holds w) (hq:CutOK Q az r cz) (hkr:0≤kd∧kd≤255) (hkd:kd=1) (hs:St w0 ((Cel c #[.slice az r.length cz,.bool sp] 150)::(Cel y (TBd.cells (⟨kd,0,0,dRq,none,0,[],dD32⟩:TBd)) 37)::L) w):Cs Tryz.prog 174 #[zP c 0,zP y 0] w fun rv w'=>∃ yy2 rr2 sp2 az2 cz2,rv=.tuple #[]∧getB kd (r,sp)=(con yy2,(rr2,sp2))∧BdOK yy2∧CutOK Q az2 rr2 cz2∧St w0 ((Cel y (TBd.cells yy2) 37)::(Sl yy2.qa yy2.qc 143 2 TPr.cells yy2.ql)::(Cel c #[.slice az2 rr2.length cz2,.bool sp2] 150)::L) w':=by
 refine Zen Tryz.func174 Tryz.ntmps174 (En (Lg [3,5,8,11] (Lw (Zc (cutWord_spec Q r sp (fun w h=>hQ w (h.drop 1)) hq hs) ?_))))
 rintro a8 a9 ⟨b,rr2,e,b0,b1,rfl,f,b2,i,o⟩
 refine Lo (Lw (Zc (getRequest_spec Q rr2 e (fun w h=>hQ w (h.drop 1)) i o) ?_))
 rintro b3 b4 ⟨d,q,u,x,z,rfl,a0,a1,a2,a3⟩
 refine Lo (Lw (Zu 1 1 (TBd.cells (⟨kd,b,0,dRq,none,0,[],dD32⟩:TBd)) a3 fun b5 a4=>Lo (Lw (Zu 1 3 (TBd.cells (⟨kd,b,0,d,none,0,[],dD32⟩:TBd)) a4 fun b6 a5=>Lo (Ld (Dz (GoQ.done (.inr rfl) (fun a hf=>results0 rfl a hf) ?_)))))))
 have a6:=St.slNil a5 143 2 TPr.cells
 exact⟨(⟨kd,b,0,d,none,0,[],dD32⟩:TBd),q,u,x,z,rfl,((if_pos hkd:getB kd (r,sp)=g1 (r,sp)).trans (by unfold g1;simp only [f,a0];rw [hkd];rfl)),⟨hkr,(by first|omega|(dsimp only;omega)),(by dsimp only;omega),a1,(fun p hp=>by cases hp),dD32_ok,Nat.zero_le _⟩,a2,(((a6.pl 1).pl 1).pl 2)⟩
theorem get2Y_spec {y:Nat}(Q) (r) (sp) (kd) (hQ:∀ w,St w0 L w→Q.holds w) (hq:CutOK Q az r cz) (hkr:0≤kd∧kd≤255) (hkd:kd=2) (hs:St w0 ((Cel c #[.slice az r.length cz,.bool sp] 150)::(Cel y (TBd.cells (⟨kd,0,0,dRq,none,0,[],dD32⟩:TBd)) 37)::L) w):Cs Tryz.prog 179 #[zP c 0,zP y 0] w fun rv w'=>∃ yy2 rr2 sp2 az2 cz2,rv=.tuple #[]∧getB kd (r,sp)=(con yy2,(rr2,sp2))∧BdOK yy2∧CutOK Q az2 rr2 cz2∧St w0 ((Cel y (TBd.cells yy2) 37)::(Sl yy2.qa yy2.qc 143 2 TPr.cells yy2.ql)::(Cel c #[.slice az2 rr2.length cz2,.bool sp2] 150)::L) w':=by
 refine Zen Tryz.func179 Tryz.ntmps179 (En (Lg [3,5,8,11] (Lw (Zc (cutWord_spec Q r sp (fun w h=>hQ w (h.drop 1)) hq hs) ?_))))
 rintro a7 a8 ⟨b,rr2,e,a9,b0,rfl,f,b1,i,o⟩
 refine Lo (Lw (Zc (cutWord_spec Q rr2 e (fun w h=>hQ w (h.drop 1)) i o) ?_))
 rintro b2 b3 ⟨d,q,u,x,z,rfl,a0,b4,a1,a2⟩
 refine Lo (Lw (Zu 1 1 (TBd.cells (⟨kd,b,0,dRq,none,0,[],dD32⟩:TBd)) a2 fun b5 a3=>Lo (Lw (Zu 1 2 (TBd.cells (⟨kd,b,d,dRq,none,0,[],dD32⟩:TBd)) a3 fun b6 a4=>Lo (Ld (Dz (GoQ.done (.inr rfl) (fun a hf=>results0 rfl a hf) ?_)))))))
 have a5:=St.slNil a4 143 2 TPr.cells
 exact⟨(⟨kd,b,d,dRq,none,0,[],dD32⟩:TBd),q,u,x,z,rfl,(((if_neg (by omega)).trans (if_pos hkd):getB kd (r,sp)=g2 (r,sp)).trans (by unfold g2;simp only [f,a0];rw [hkd];rfl)),⟨hkr,(by first|omega|(dsimp only;omega)),(by first|omega|(dsimp only;omega)),dRq_ok,(fun p hp=>by cases hp),dD32_ok,Nat.zero_le _⟩,a1,(((a5.pl 1).pl 1).pl 2)⟩
theorem get3Y_spec {y:Nat}(Q) (r) (sp) (kd) (hQ:∀ w,St w0 L w→Q.holds w) (hq:CutOK Q az r cz) (hkr:0≤kd∧kd≤255) (hkd:kd=3∨kd=5) (hs:St w0 ((Cel c #[.slice az r.length cz,.bool sp] 150)::(Cel y (TBd.cells (⟨kd,0,0,dRq,none,0,[],dD32⟩:TBd)) 37)::L) w):Cs Tryz.prog 235 #[zP c 0,zP y 0] w fun rv w'=>∃ yy2 rr2 sp2 az2 cz2,rv=.tuple #[]∧getB kd (r,sp)=(con yy2,(rr2,sp2))∧BdOK yy2∧CutOK Q az2 rr2 cz2∧St w0 ((Cel y (TBd.cells yy2) 37)::(Sl yy2.qa yy2.qc 143 2 TPr.cells yy2.ql)::(Cel c #[.slice az2 rr2.length cz2,.bool sp2] 150)::L) w':=by
 refine Zen Tryz.func235 Tryz.ntmps235 (En (Lg [2,5] (Lw (Zc (cutWord_spec Q r sp (fun w h=>hQ w (h.drop 1)) hq hs) ?_))))
 rintro a0 a1 ⟨b,rr2,d,e,f,rfl,i,a2,o,q⟩
 refine Lo (Lw (Zu 1 1 (TBd.cells (⟨kd,b,0,dRq,none,0,[],dD32⟩:TBd)) q fun a3 u=>Lo (Ld (Dz (GoQ.done (.inr rfl) (fun a hf=>results0 rfl a hf) ?_)))))
 have x:=St.slNil u 143 2 TPr.cells
 exact⟨(⟨kd,b,0,dRq,none,0,[],dD32⟩:TBd),rr2,d,e,f,rfl,(((if_neg (by omega)).trans ((if_neg (by omega)).trans ((if_neg (by omega)).trans (if_neg (by omega)))):getB kd (r,sp)=g3 kd (r,sp)).trans (by unfold g3;simp only [i];rfl)),⟨hkr,(by first|omega|(dsimp only;omega)),(by dsimp only;omega),dRq_ok,(fun p hp=>by cases hp),dD32_ok,Nat.zero_le _⟩,o,(((x.pl 1).pl 1).pl 2)⟩
theorem get6Y_spec {y:Nat}(Q) (r) (sp) (kd) (hQ:∀ w,St w0 L w→Q.holds w) (hq:CutOK Q az r cz) (hkr:0≤kd∧kd≤255) (hkd:kd=6) (hs:St w0 ((Cel c #[.slice az r.length cz,.bool sp] 150)::(Cel y (TBd.cells (⟨kd,0,0,dRq,none,0,[],dD32⟩:TBd)) 37)::L) w):Cs Tryz.prog 187 #[zP c 0,zP y 0] w fun rv w'=>∃ yy2 rr2 sp2 az2 cz2,rv=.tuple #[]∧getB kd (r,sp)=(con yy2,(rr2,sp2))∧BdOK yy2∧CutOK Q az2 rr2 cz2∧St w0 ((Cel y (TBd.cells yy2) 37)::(Sl yy2.qa yy2.qc 143 2 TPr.cells yy2.ql)::(Cel c #[.slice az2 rr2.length cz2,.bool sp2] 150)::L) w':=by
 refine Zen Tryz.func187 Tryz.ntmps187 (En (Lg [3,5,8,11] (Lw (Zc (cutWord_spec Q r sp (fun w h=>hQ w (h.drop 1)) hq hs) ?_))))
 rintro a8 a9 ⟨b,rr2,e,b0,b1,rfl,f,b2,i,o⟩
 refine Lo (Lw (Zc (hash_spec Q rr2 e (fun w h=>hQ w (h.drop 1)) i o) ?_))
 rintro b3 b4 ⟨d,q,u,x,z,rfl,a0,a1,a2,a3⟩
 refine Lo (Lw (Zu 1 2 (TBd.cells (⟨kd,0,b,dRq,none,0,[],dD32⟩:TBd)) a3 fun b5 a4=>Lo (Lw (Zu 1 44 (TBd.cells (⟨kd,0,b,dRq,none,0,[],d⟩:TBd)) a4 fun b6 a5=>Lo (Ld (Dz (GoQ.done (.inr rfl) (fun a hf=>results0 rfl a hf) ?_)))))))
 have a6:=St.slNil a5 143 2 TPr.cells
 exact⟨(⟨kd,0,b,dRq,none,0,[],d⟩:TBd),q,u,x,z,rfl,(((if_neg (by omega)).trans ((if_neg (by omega)).trans ((if_neg (by omega)).trans (if_pos hkd))):getB kd (r,sp)=g6 (r,sp)).trans (by unfold g6;simp only [f,a0];rw [hkd];rfl)),⟨hkr,(by dsimp only;omega),(by first|omega|(dsimp only;omega)),dRq_ok,(fun p hp=>by cases hp),a1,Nat.zero_le _⟩,a2,(((a6.pl 1).pl 1).pl 2)⟩
theorem get1M_spec {y:Nat}{og:Int}{nr:Int}{dp:VecD}{tg:D32}(Q) (r) (sp) (kd) (hQ:∀ w,St w0 L w→Q.holds w) (hq:CutOK Q az r cz) (hkr:0≤kd∧kd≤255) (hkd:kd=1) (hs:St w0 ((Cel c #[.slice az r.length cz,.bool sp] 150)::(Cel y (TMs.cells (⟨og,nr,dp,(⟨kd,0,0,dRq,none,0,[],dD32⟩:TBd),tg⟩:TMs)) 63)::L) w):Cs Tryz.prog 174 #[zP c 0,zP y 13] w fun rv w'=>∃ yy2 rr2 sp2 az2 cz2,rv=.tuple #[]∧getB kd (r,sp)=(con yy2,(rr2,sp2))∧BdOK yy2∧CutOK Q az2 rr2 cz2∧St w0 ((Cel y (TMs.cells (⟨og,nr,dp,yy2,tg⟩:TMs)) 63)::(Sl yy2.qa yy2.qc 143 2 TPr.cells yy2.ql)::(Cel c #[.slice az2 rr2.length cz2,.bool sp2] 150)::L) w':=by
 refine Zen Tryz.func174 Tryz.ntmps174 (En (Lg [3,5,8,11] (Lw (Zc (cutWord_spec Q r sp (fun w h=>hQ w (h.drop 1)) hq hs) ?_))))
 rintro a8 a9 ⟨b,rr2,e,b0,b1,rfl,f,b2,i,o⟩
 refine Lo (Lw (Zc (getRequest_spec Q rr2 e (fun w h=>hQ w (h.drop 1)) i o) ?_))
 rintro b3 b4 ⟨d,q,u,x,z,rfl,a0,a1,a2,a3⟩
 refine Lo (Lw (Zu 1 14 (TMs.cells (⟨og,nr,dp,(⟨kd,b,0,dRq,none,0,[],dD32⟩:TBd),tg⟩:TMs)) a3 fun b5 a4=>Lo (Lw (Zu 1 16 (TMs.cells (⟨og,nr,dp,(⟨kd,b,0,d,none,0,[],dD32⟩:TBd),tg⟩:TMs)) a4 fun b6 a5=>Lo (Ld (Dz (GoQ.done (.inr rfl) (fun a hf=>results0 rfl a hf) ?_)))))))
 have a6:=St.slNil a5 143 2 TPr.cells
 exact⟨(⟨kd,b,0,d,none,0,[],dD32⟩:TBd),q,u,x,z,rfl,((if_pos hkd:getB kd (r,sp)=g1 (r,sp)).trans (by unfold g1;simp only [f,a0];rw [hkd];rfl)),⟨hkr,(by first|omega|(dsimp only;omega)),(by dsimp only;omega),a1,(fun p hp=>by cases hp),dD32_ok,Nat.zero_le _⟩,a2,(((a6.pl 1).pl 1).pl 2)⟩
theorem get2M_spec {y:Nat}{og:Int}{nr:Int}{dp:VecD}{tg:D32}(Q) (r) (sp) (kd) (hQ:∀ w,St w0 L w→Q.holds w) (hq:CutOK Q az r cz) (hkr:0≤kd∧kd≤255) (hkd:kd=2) (hs:St w0 ((Cel c #[.slice az r.length cz,.bool sp] 150)::(Cel y (TMs.cells (⟨og,nr,dp,(⟨kd,0,0,dRq,none,0,[],dD32⟩:TBd),tg⟩:TMs)) 63)::L) w):Cs Tryz.prog 179 #[zP c 0,zP y 13] w fun rv w'=>∃ yy2 rr2 sp2 az2 cz2,rv=.tuple #[]∧getB kd (r,sp)=(con yy2,(rr2,sp2))∧BdOK yy2∧CutOK Q az2 rr2 cz2∧St w0 ((Cel y (TMs.cells (⟨og,nr,dp,yy2,tg⟩:TMs)) 63)::(Sl yy2.qa yy2.qc 143 2 TPr.cells yy2.ql)::(Cel c #[.slice az2 rr2.length cz2,.bool sp2] 150)::L) w':=by
 refine Zen Tryz.func179 Tryz.ntmps179 (En (Lg [3,5,8,11] (Lw (Zc (cutWord_spec Q r sp (fun w h=>hQ w (h.drop 1)) hq hs) ?_))))
 rintro a7 a8 ⟨b,rr2,e,a9,b0,rfl,f,b1,i,o⟩
 refine Lo (Lw (Zc (cutWord_spec Q rr2 e (fun w h=>hQ w (h.drop 1)) i o) ?_))
 rintro b2 b3 ⟨d,q,u,x,z,rfl,a0,b4,a1,a2⟩
 refine Lo (Lw (Zu 1 14 (TMs.cells (⟨og,nr,dp,(⟨kd,b,0,dRq,none,0,[],dD32⟩:TBd),tg⟩:TMs)) a2 fun b5 a3=>Lo (Lw (Zu 1 15 (TMs.cells (⟨og,nr,dp,(⟨kd,b,d,dRq,none,0,[],dD32⟩:TBd),tg⟩:TMs)) a3 fun b6 a4=>Lo (Ld (Dz (GoQ.done (.inr rfl) (fun a hf=>results0 rfl a hf) ?_)))))))
 have a5:=St.slNil a4 143 2 TPr.cells
 exact⟨(⟨kd,b,d,dRq,none,0,[],dD32⟩:TBd),q,u,x,z,rfl,(((if_neg (by omega)).trans (if_pos hkd):getB kd (r,sp)=g2 (r,sp)).trans (by unfold g2;simp only [f,a0];rw [hkd];rfl)),⟨hkr,(by first|omega|(dsimp only;omega)),(by first|omega|(dsimp only;omega)),dRq_ok,(fun p hp=>by cases hp),dD32_ok,Nat.zero_le _⟩,a1,(((a5.pl 1).pl 1).pl 2)⟩
theorem get3M_spec {y:Nat}{og:Int}{nr:Int}{dp:VecD}{tg:D32}(Q) (r) (sp) (kd) (hQ:∀ w,St w0 L w→Q.holds w) (hq:CutOK Q az r cz) (hkr:0≤kd∧kd≤255) (hkd:kd=3∨kd=5) (hs:St w0 ((Cel c #[.slice az r.length cz,.bool sp] 150)::(Cel y (TMs.cells (⟨og,nr,dp,(⟨kd,0,0,dRq,none,0,[],dD32⟩:TBd),tg⟩:TMs)) 63)::L) w):Cs Tryz.prog 235 #[zP c 0,zP y 13] w fun rv w'=>∃ yy2 rr2 sp2 az2 cz2,rv=.tuple #[]∧getB kd (r,sp)=(con yy2,(rr2,sp2))∧BdOK yy2∧CutOK Q az2 rr2 cz2∧St w0 ((Cel y (TMs.cells (⟨og,nr,dp,yy2,tg⟩:TMs)) 63)::(Sl yy2.qa yy2.qc 143 2 TPr.cells yy2.ql)::(Cel c #[.slice az2 rr2.length cz2,.bool sp2] 150)::L) w':=by
 refine Zen Tryz.func235 Tryz.ntmps235 (En (Lg [2,5] (Lw (Zc (cutWord_spec Q r sp (fun w h=>hQ w (h.drop 1)) hq hs) ?_))))
 rintro a0 a1 ⟨b,rr2,d,e,f,rfl,i,a2,o,q⟩
 refine Lo (Lw (Zu 1 14 (TMs.cells (⟨og,nr,dp,(⟨kd,b,0,dRq,none,0,[],dD32⟩:TBd),tg⟩:TMs)) q fun a3 u=>Lo (Ld (Dz (GoQ.done (.inr rfl) (fun a hf=>results0 rfl a hf) ?_)))))
 have x:=St.slNil u 143 2 TPr.cells
 exact⟨(⟨kd,b,0,dRq,none,0,[],dD32⟩:TBd),rr2,d,e,f,rfl,(((if_neg (by omega)).trans ((if_neg (by omega)).trans ((if_neg (by omega)).trans (if_neg (by omega)))):getB kd (r,sp)=g3 kd (r,sp)).trans (by unfold g3;simp only [i];rfl)),⟨hkr,(by first|omega|(dsimp only;omega)),(by dsimp only;omega),dRq_ok,(fun p hp=>by cases hp),dD32_ok,Nat.zero_le _⟩,o,(((x.pl 1).pl 1).pl 2)⟩
theorem get6M_spec {y:Nat}{og:Int}{nr:Int}{dp:VecD}{tg:D32}(Q) (r) (sp) (kd) (hQ:∀ w,St w0 L w→Q.holds w) (hq:CutOK Q az r cz) (hkr:0≤kd∧kd≤255) (hkd:kd=6) (hs:St w0 ((Cel c #[.slice az r.length cz,.bool sp] 150)::(Cel y (TMs.cells (⟨og,nr,dp,(⟨kd,0,0,dRq,none,0,[],dD32⟩:TBd),tg⟩:TMs)) 63)::L) w):Cs Tryz.prog 187 #[zP c 0,zP y 13] w fun rv w'=>∃ yy2 rr2 sp2 az2 cz2,rv=.tuple #[]∧getB kd (r,sp)=(con yy2,(rr2,sp2))∧BdOK yy2∧CutOK Q az2 rr2 cz2∧St w0 ((Cel y (TMs.cells (⟨og,nr,dp,yy2,tg⟩:TMs)) 63)::(Sl yy2.qa yy2.qc 143 2 TPr.cells yy2.ql)::(Cel c #[.slice az2 rr2.length cz2,.bool sp2] 150)::L) w':=by
 refine Zen Tryz.func187 Tryz.ntmps187 (En (Lg [3,5,8,11] (Lw (Zc (cutWord_spec Q r sp (fun w h=>hQ w (h.drop 1)) hq hs) ?_))))
 rintro a8 a9 ⟨b,rr2,e,b0,b1,rfl,f,b2,i,o⟩
 refine Lo (Lw (Zc (hash_spec Q rr2 e (fun w h=>hQ w (h.drop 1)) i o) ?_))
 rintro b3 b4 ⟨d,q,u,x,z,rfl,a0,a1,a2,a3⟩
 refine Lo (Lw (Zu 1 15 (TMs.cells (⟨og,nr,dp,(⟨kd,0,b,dRq,none,0,[],dD32⟩:TBd),tg⟩:TMs)) a3 fun b5 a4=>Lo (Lw (Zu 1 57 (TMs.cells (⟨og,nr,dp,(⟨kd,0,b,dRq,none,0,[],d⟩:TBd),tg⟩:TMs)) a4 fun b6 a5=>Lo (Ld (Dz (GoQ.done (.inr rfl) (fun a hf=>results0 rfl a hf) ?_)))))))
 have a6:=St.slNil a5 143 2 TPr.cells
 exact⟨(⟨kd,0,b,dRq,none,0,[],d⟩:TBd),q,u,x,z,rfl,(((if_neg (by omega)).trans ((if_neg (by omega)).trans ((if_neg (by omega)).trans (if_pos hkd))):getB kd (r,sp)=g6 (r,sp)).trans (by unfold g6;simp only [f,a0];rw [hkd];rfl)),⟨hkr,(by dsimp only;omega),(by first|omega|(dsimp only;omega)),dRq_ok,(fun p hp=>by cases hp),a1,Nat.zero_le _⟩,a2,(((a6.pl 1).pl 1).pl 2)⟩
theorem u8dec {n:Nat}(h:n+1≤255):Value.int .u8 (IntKind.u8.wrap ((n+1:Nat)-1))=.int .u8 (n:Nat):=by
 congr 1
 show(((n+1:Nat):Int)-1) % 256=_
 omega
theorem prsP_step {n:Nat}{r r1 r2:List Int}{sp p1 p2:Bool}{q:List TPr}{a b:Int}(h0:sp=false) (h1:byteP (r,sp)=(a,(r1,p1))) (h2:wordP (r1,p1)=(b,(r2,p2))):prsP (n+1) (r,sp) q=prsP n (r2,p2) (q++[⟨a,b⟩]):=by
 show(if sp=true then (q,(r,sp)) else _)=_
 rw [if_neg (by rw [h0];decide)]
 simp only [h1,h2]
theorem prsP_end {n:Nat}{r:List Int}{sp:Bool}{q:List TPr}(h:n=0∨sp=true):prsP n (r,sp) q=(q,(r,sp)):=by
 cases n with
 | zero=>rfl
 | succ n =>
  obtain h|h:=h
  ·cases h
  ·show(if sp=true then (q,(r,sp)) else _)=_
   rw [if_pos h]
theorem get4Y_spec {y:Nat}(Q) (r) (sp) (kd) (hQ:∀ w,St w0 L w→Q.holds w) (hq:CutOK Q az r cz) (hkr:0≤kd∧kd≤255) (hkd:kd=4) (hs:St w0 ((Cel c #[.slice az r.length cz,.bool sp] 150)::(Cel y (TBd.cells (⟨kd,0,0,dRq,none,0,[],dD32⟩:TBd)) 37)::L) w):Cs Tryz.prog 183 #[zP c 0,zP y 0] w fun rv w'=>∃ yy2 rr2 sp2 az2 cz2,rv=.tuple #[]∧getB kd (r,sp)=(con yy2,(rr2,sp2))∧BdOK yy2∧CutOK Q az2 rr2 cz2∧St w0 ((Cel y (TBd.cells yy2) 37)::(Sl yy2.qa yy2.qc 143 2 TPr.cells yy2.ql)::(Cel c #[.slice az2 rr2.length cz2,.bool sp2] 150)::L) w':=by
 refine Zen Tryz.func183 Tryz.ntmps183 (En (Ls (Lg [2,5] (Lw (Zc (cutWord_spec Q r sp (fun w h=>hQ w (h.drop 1)) hq hs) ?_)))))
 rintro f4 f5 ⟨o,rr2,c4,f6,f7,rfl,a7,f8,c5,c6⟩
 refine Lo (Lw (Zu 1 1 (TBd.cells (⟨kd,o,0,dRq,none,0,[],dD32⟩:TBd)) c6 fun f9 c7=>Lo (Ld (Lt (Ls (Lg [1] (Lw (Zc (cutByte_spec Q rr2 c4 (fun w h=>hQ w (h.drop 1)) c5 c7) ?_))))))))
 rintro g0 c8 ⟨a8,a2,a3,a9,b0,rfl,a4,g5,c9,d0⟩
 refine Lz (Lb (Dz ?_))
 have hnr:=byteP_rng a4
 obtain⟨nb,rfl⟩:∃ m:Nat,a8=(m:Int):=⟨a8.toNat,by omega⟩
 have d1:=St.slNil d0 143 2 TPr.cells
 have d2:=(((d1.pl 1).pl 2).pl 2)
 have d3:St w0 ((Sl none 0 143 2 TPr.cells ([]:List TPr))::(Cel y (TBd.cells (⟨kd,o,0,dRq,none,0,([]:List TPr),dD32⟩:TBd)) 37)::(Cel c #[.slice a9 a2.length b0,.bool a3] 150)::L) c8:=d2
 refine GoC.loop (T:=Nat×(List Int)×Bool×(Option Addr)×Nat×(Option Addr)×Nat×(List TPr)) (fun gg=>[(0,zP c 0),(1,zP y 0),(4,.int .u8 (gg.1:Nat))]) (fun gg w=>(gg.1≤255∧prsP nb (a2,a3) []=prsP gg.1 (gg.2.1,gg.2.2.1) gg.2.2.2.2.2.2.2∧CutOK Q gg.2.2.2.1 gg.2.1 gg.2.2.2.2.1∧(∀ p∈gg.2.2.2.2.2.2.2,(-9223372036854775808≤p.rp∧p.rp≤9223372036854775807)∧(0≤p.nm∧p.nm≤18446744073709551615))∧gg.2.2.2.2.2.2.2.length+gg.1≤255)∧St w0 ((Sl gg.2.2.2.2.2.1 gg.2.2.2.2.2.2.1 143 2 TPr.cells gg.2.2.2.2.2.2.2)::(Cel y (TBd.cells (⟨kd,o,0,dRq,gg.2.2.2.2.2.1,gg.2.2.2.2.2.2.1,gg.2.2.2.2.2.2.2,dD32⟩:TBd)) 37)::(Cel c #[.slice gg.2.2.2.1 gg.2.1.length gg.2.2.2.2.1,.bool gg.2.2.1] 150)::L) w) (fun gg=>gg.1) (nb,a2,a3,a9,b0,none,0,([]:List TPr)) [0,1,4] (by kernel_rfl) ⟨⟨by omega,rfl,c9,fun p hp=>(by cases hp),by simp only [lN];omega⟩,d3⟩ ?_
 rintro⟨n2,a1,i,b1,b2,q,u,b⟩ g7 ⟨hp,a5⟩
 dsimp only at hp a5
 refine En (Ls (Ls (Lg [4] (Dz (Zr 0 3 [] (Zsd 14 ((n2:Int)>0) (fun d4=>?_) (fun d4=>?_)))))))
 ·have g8:0<n2:=by omega
  refine En (Lw (Zc1 (cutOk_spec a1 i (a5.pl 2)) fun h0 b3=>Lz (Dz (Zqc (t:=!i) (fun a6=>?_) (fun a6=>?_)))))
  ·have hsf:i=false:=by simpa using a6
   obtain⟨x,rfl⟩:∃ m,n2=m+1:=⟨n2-1,by omega⟩
   refine Zk (Zt (Zs (Zb (ZD (rds [0,1,2,3,4,5,8] (.ef 6 (.rd 7 (.ef 9 (.rd 10 (.ef 11 (.ef 12 (rds [13,14] (.ef 15 .done))))))))) b3 fun h1 b4 h2=>Zj (Hl 4 2 43 b4 Hz) (Zc (cutByte_spec Q a1 i (fun w h=>hQ w (h.drop 2)) hp.2.2.1 b4) ?_)))))
   rintro h3 h4 ⟨d,d6,d7,h5,h6,rfl,d8,h7,d9,b5⟩
   refine⟨(opl (n:=[.cell ⟨y,43,none⟩ (.slice q b.length u)]) (by kernel_rfl) (okc (b5.cell 2 rfl (by kernel_rfl)) ok0)),(Zj (Hwi 7 d Hz) (Zc (cutWord_spec Q d6 d7 (fun w h=>hQ w (h.drop 2)) d9 b5) ?_))⟩
   rintro h8 i0 ⟨a0,b6,b7,b8,b9,rfl,e0,i1,e1,c0⟩
   refine⟨(opl (n:=[.prop (Value.int .i64 (IntKind.i64.wrap d)=Value.int .i64 d),.cell ⟨y,43,none⟩ (.slice q b.length u)]) (by kernel_rfl) (okp (i64ok (by omega) (by omega)) (okc (c0.cell 2 rfl (by kernel_rfl)) ok0))),(En (Lw (GoR.sliceLit rfl (by kernel_rfl) (t:=35) (e:=143) (n:=1) (ps:=[(0,.agg (TPr.cells (⟨d,a0⟩:TPr)))]) (by kernel_rfl) (by kernel_rfl) (ti:=Tryz.t143) (z:=.agg (TPr.cells dPr)) (by kernel_rfl) (by kernel_rfl) (by decide) (by decide) (cs:=TPr.cells (⟨d,a0⟩:TPr)) (by kernel_rfl) c0 fun e2 e3 e4 e5=>?_)))⟩
   have c1:St w0 ((Sl (some ⟨e2,0,none⟩) 1 143 2 TPr.cells ([((⟨d,a0⟩:TPr):TPr)]))::(Cel c #[.slice b8 b6.length b9,.bool b7] 150)::(Sl q u 143 2 TPr.cells b)::(Cel y (TBd.cells (⟨kd,o,0,dRq,q,u,b,dD32⟩:TBd)) 37)::L) e3:=St.slOf (l:=[((⟨d,a0⟩:TPr):TPr)]) (f:=TPr.cells) e4 e5 (dPrF).size (by simp only [lC,lN,maxLen];omega) (by kernel_rfl)
   refine⟨(opl (n:=[.cell ⟨y,43,none⟩ (.slice q b.length u)]) (by kernel_rfl) (okc (c1.cell 3 rfl (by kernel_rfl)) ok0)),(Zap prsOK dPrF dPr (c1.pl 2) (by simp only [lA,lC,lN,List.length_map] at *;omega) fun c2 c3 i2 e7=>Lo (Lw (Zu 3 43 (TBd.cells (⟨kd,o,0,dRq,c2,c3,(b++([((⟨d,a0⟩:TPr):TPr)])),dD32⟩:TBd)) e7 fun i3 e8=>Lo (Ld (Lm (Lt (Dz (Zaj (Hg 1 (.as_ (.int .u8 (x:Nat)) (.gen [])) [.prop (Value.int .u8 (IntKind.u8.wrap (((x+1):Nat)-1))=Value.int .u8 (x:Nat))] (okp (u8dec (by omega)) ok0) Hz) ?_))))))))⟩
   have e9:=((((e8.pl 2).pl 3).pl 2).pl 3)
   exact GoQ.back (x,b6,b7,b8,b9,c2,c3,(b++[(⟨d,a0⟩:TPr)])) [0,1,4] (by kernel_rfl) (by show x<(x+1);omega) ⟨⟨by omega,by rw [hp.2.1,prsP_step hsf d8 e0],e1,fun p f1=>(List.mem_append.1 f1).elim (hp.2.2.2.1 p) (fun h9=>by rw [List.mem_singleton.1 h9];exact⟨(by dsimp only;omega),(by dsimp only;omega)⟩),by show(b++[_]).length+x≤255;have:=hp.2.2.2.2;simp only [lA,lC,lN];omega⟩,(e9.dr 1)⟩
  ·have hend:n2=0∨i=true:=.inr (by simpa using a6)
   exact Zx (GoQ.skipC (GoQ.skipL (GoQ.hit (GoQ.done (.inr rfl) (fun a hf=>results0 rfl a hf) ⟨(⟨kd,o,0,dRq,q,u,b,dD32⟩:TBd),a1,i,b1,b2,rfl,(((if_neg (by omega)).trans ((if_neg (by omega)).trans (if_pos hkd)):getB kd (r,sp)=g4 (r,sp)).trans (by unfold g4;simp only [a7,a4,Int.toNat_natCast];rw [hp.2.1,prsP_end hend,hkd];rfl)),⟨hkr,(by first|omega|(dsimp only;omega)),(by dsimp only;omega),dRq_ok,hp.2.2.2.1,dD32_ok,(by have:=hp.2.2.2.2;dsimp only;omega)⟩,hp.2.2.1,(((b3.pl 0).pl 1).pl 2)⟩))))
 ·have hend:n2=0∨i=true:=.inl (by omega)
  exact En (Lw (Zsk (En (Lud (Lt (LF (Lx (LsC (LsL (Lh (Dz (GoQ.done (.inr rfl) (fun a hf=>results0 rfl a hf) ⟨(⟨kd,o,0,dRq,q,u,b,dD32⟩:TBd),a1,i,b1,b2,rfl,(((if_neg (by omega)).trans ((if_neg (by omega)).trans (if_pos hkd)):getB kd (r,sp)=g4 (r,sp)).trans (by unfold g4;simp only [a7,a4,Int.toNat_natCast];rw [hp.2.1,prsP_end hend,hkd];rfl)),⟨hkr,(by first|omega|(dsimp only;omega)),(by dsimp only;omega),dRq_ok,hp.2.2.2.1,dD32_ok,(by have:=hp.2.2.2.2;dsimp only;omega)⟩,hp.2.2.1,(((a5.pl 2).pl 1).pl 2)⟩))))))))))))
theorem get4M_spec {y:Nat}{og:Int}{nr:Int}{dp:VecD}{tg:D32}(Q) (r) (sp) (kd) (hQ:∀ w,St w0 L w→Q.holds w) (hq:CutOK Q az r cz) (hkr:0≤kd∧kd≤255) (hkd:kd=4) (hs:St w0 ((Cel c #[.slice az r.length cz,.bool sp] 150)::(Cel y (TMs.cells (⟨og,nr,dp,(⟨kd,0,0,dRq,none,0,[],dD32⟩:TBd),tg⟩:TMs)) 63)::L) w):Cs Tryz.prog 183 #[zP c 0,zP y 13] w fun rv w'=>∃ yy2 rr2 sp2 az2 cz2,rv=.tuple #[]∧getB kd (r,sp)=(con yy2,(rr2,sp2))∧BdOK yy2∧CutOK Q az2 rr2 cz2∧St w0 ((Cel y (TMs.cells (⟨og,nr,dp,yy2,tg⟩:TMs)) 63)::(Sl yy2.qa yy2.qc 143 2 TPr.cells yy2.ql)::(Cel c #[.slice az2 rr2.length cz2,.bool sp2] 150)::L) w':=by
 refine Zen Tryz.func183 Tryz.ntmps183 (En (Ls (Lg [2,5] (Lw (Zc (cutWord_spec Q r sp (fun w h=>hQ w (h.drop 1)) hq hs) ?_)))))
 rintro f4 f5 ⟨o,rr2,c4,f6,f7,rfl,a7,f8,c5,c6⟩
 refine Lo (Lw (Zu 1 14 (TMs.cells (⟨og,nr,dp,(⟨kd,o,0,dRq,none,0,[],dD32⟩:TBd),tg⟩:TMs)) c6 fun f9 c7=>Lo (Ld (Lt (Ls (Lg [1] (Lw (Zc (cutByte_spec Q rr2 c4 (fun w h=>hQ w (h.drop 1)) c5 c7) ?_))))))))
 rintro g0 c8 ⟨a8,a2,a3,a9,b0,rfl,a4,g5,c9,d0⟩
 refine Lz (Lb (Dz ?_))
 have hnr:=byteP_rng a4
 obtain⟨nb,rfl⟩:∃ m:Nat,a8=(m:Int):=⟨a8.toNat,by omega⟩
 have d1:=St.slNil d0 143 2 TPr.cells
 have d2:=(((d1.pl 1).pl 2).pl 2)
 have d3:St w0 ((Sl none 0 143 2 TPr.cells ([]:List TPr))::(Cel y (TMs.cells (⟨og,nr,dp,(⟨kd,o,0,dRq,none,0,([]:List TPr),dD32⟩:TBd),tg⟩:TMs)) 63)::(Cel c #[.slice a9 a2.length b0,.bool a3] 150)::L) c8:=d2
 refine GoC.loop (T:=Nat×(List Int)×Bool×(Option Addr)×Nat×(Option Addr)×Nat×(List TPr)) (fun gg=>[(0,zP c 0),(1,zP y 13),(4,.int .u8 (gg.1:Nat))]) (fun gg w=>(gg.1≤255∧prsP nb (a2,a3) []=prsP gg.1 (gg.2.1,gg.2.2.1) gg.2.2.2.2.2.2.2∧CutOK Q gg.2.2.2.1 gg.2.1 gg.2.2.2.2.1∧(∀ p∈gg.2.2.2.2.2.2.2,(-9223372036854775808≤p.rp∧p.rp≤9223372036854775807)∧(0≤p.nm∧p.nm≤18446744073709551615))∧gg.2.2.2.2.2.2.2.length+gg.1≤255)∧St w0 ((Sl gg.2.2.2.2.2.1 gg.2.2.2.2.2.2.1 143 2 TPr.cells gg.2.2.2.2.2.2.2)::(Cel y (TMs.cells (⟨og,nr,dp,(⟨kd,o,0,dRq,gg.2.2.2.2.2.1,gg.2.2.2.2.2.2.1,gg.2.2.2.2.2.2.2,dD32⟩:TBd),tg⟩:TMs)) 63)::(Cel c #[.slice gg.2.2.2.1 gg.2.1.length gg.2.2.2.2.1,.bool gg.2.2.1] 150)::L) w) (fun gg=>gg.1) (nb,a2,a3,a9,b0,none,0,([]:List TPr)) [0,1,4] (by kernel_rfl) ⟨⟨by omega,rfl,c9,fun p hp=>(by cases hp),by simp only [lN];omega⟩,d3⟩ ?_
 rintro⟨n2,a1,i,b1,b2,q,u,b⟩ g7 ⟨hp,a5⟩
 dsimp only at hp a5
 refine En (Ls (Ls (Lg [4] (Dz (Zr 0 3 [] (Zsd 14 ((n2:Int)>0) (fun d4=>?_) (fun d4=>?_)))))))
 ·have g8:0<n2:=by omega
  refine En (Lw (Zc1 (cutOk_spec a1 i (a5.pl 2)) fun h0 b3=>Lz (Dz (Zqc (t:=!i) (fun a6=>?_) (fun a6=>?_)))))
  ·have hsf:i=false:=by simpa using a6
   obtain⟨x,rfl⟩:∃ m,n2=m+1:=⟨n2-1,by omega⟩
   refine Zk (Zt (Zs (Zb (ZD (rds [0,1,2,3,4,5,8] (.ef 6 (.rd 7 (.ef 9 (.rd 10 (.ef 11 (.ef 12 (rds [13,14] (.ef 15 .done))))))))) b3 fun h1 b4 h2=>Zj (Hl 4 2 56 b4 Hz) (Zc (cutByte_spec Q a1 i (fun w h=>hQ w (h.drop 2)) hp.2.2.1 b4) ?_)))))
   rintro h3 h4 ⟨d,d6,d7,h5,h6,rfl,d8,h7,d9,b5⟩
   refine⟨(opl (n:=[.cell ⟨y,56,none⟩ (.slice q b.length u)]) (by kernel_rfl) (okc (b5.cell 2 rfl (by kernel_rfl)) ok0)),(Zj (Hwi 7 d Hz) (Zc (cutWord_spec Q d6 d7 (fun w h=>hQ w (h.drop 2)) d9 b5) ?_))⟩
   rintro h8 i0 ⟨a0,b6,b7,b8,b9,rfl,e0,i1,e1,c0⟩
   refine⟨(opl (n:=[.prop (Value.int .i64 (IntKind.i64.wrap d)=Value.int .i64 d),.cell ⟨y,56,none⟩ (.slice q b.length u)]) (by kernel_rfl) (okp (i64ok (by omega) (by omega)) (okc (c0.cell 2 rfl (by kernel_rfl)) ok0))),(En (Lw (GoR.sliceLit rfl (by kernel_rfl) (t:=35) (e:=143) (n:=1) (ps:=[(0,.agg (TPr.cells (⟨d,a0⟩:TPr)))]) (by kernel_rfl) (by kernel_rfl) (ti:=Tryz.t143) (z:=.agg (TPr.cells dPr)) (by kernel_rfl) (by kernel_rfl) (by decide) (by decide) (cs:=TPr.cells (⟨d,a0⟩:TPr)) (by kernel_rfl) c0 fun e2 e3 e4 e5=>?_)))⟩
   have c1:St w0 ((Sl (some ⟨e2,0,none⟩) 1 143 2 TPr.cells ([((⟨d,a0⟩:TPr):TPr)]))::(Cel c #[.slice b8 b6.length b9,.bool b7] 150)::(Sl q u 143 2 TPr.cells b)::(Cel y (TMs.cells (⟨og,nr,dp,(⟨kd,o,0,dRq,q,u,b,dD32⟩:TBd),tg⟩:TMs)) 63)::L) e3:=St.slOf (l:=[((⟨d,a0⟩:TPr):TPr)]) (f:=TPr.cells) e4 e5 (dPrF).size (by simp only [lC,lN,maxLen];omega) (by kernel_rfl)
   refine⟨(opl (n:=[.cell ⟨y,56,none⟩ (.slice q b.length u)]) (by kernel_rfl) (okc (c1.cell 3 rfl (by kernel_rfl)) ok0)),(Zap prsOK dPrF dPr (c1.pl 2) (by simp only [lA,lC,lN,List.length_map] at *;omega) fun c2 c3 i2 e7=>Lo (Lw (Zu 3 56 (TMs.cells (⟨og,nr,dp,(⟨kd,o,0,dRq,c2,c3,(b++([((⟨d,a0⟩:TPr):TPr)])),dD32⟩:TBd),tg⟩:TMs)) e7 fun i3 e8=>Lo (Ld (Lm (Lt (Dz (Zaj (Hg 1 (.as_ (.int .u8 (x:Nat)) (.gen [])) [.prop (Value.int .u8 (IntKind.u8.wrap (((x+1):Nat)-1))=Value.int .u8 (x:Nat))] (okp (u8dec (by omega)) ok0) Hz) ?_))))))))⟩
   have e9:=((((e8.pl 2).pl 3).pl 2).pl 3)
   exact GoQ.back (x,b6,b7,b8,b9,c2,c3,(b++[(⟨d,a0⟩:TPr)])) [0,1,4] (by kernel_rfl) (by show x<(x+1);omega) ⟨⟨by omega,by rw [hp.2.1,prsP_step hsf d8 e0],e1,fun p f1=>(List.mem_append.1 f1).elim (hp.2.2.2.1 p) (fun h9=>by rw [List.mem_singleton.1 h9];exact⟨(by dsimp only;omega),(by dsimp only;omega)⟩),by show(b++[_]).length+x≤255;have:=hp.2.2.2.2;simp only [lA,lC,lN];omega⟩,(e9.dr 1)⟩
  ·have hend:n2=0∨i=true:=.inr (by simpa using a6)
   exact Zx (GoQ.skipC (GoQ.skipL (GoQ.hit (GoQ.done (.inr rfl) (fun a hf=>results0 rfl a hf) ⟨(⟨kd,o,0,dRq,q,u,b,dD32⟩:TBd),a1,i,b1,b2,rfl,(((if_neg (by omega)).trans ((if_neg (by omega)).trans (if_pos hkd)):getB kd (r,sp)=g4 (r,sp)).trans (by unfold g4;simp only [a7,a4,Int.toNat_natCast];rw [hp.2.1,prsP_end hend,hkd];rfl)),⟨hkr,(by first|omega|(dsimp only;omega)),(by dsimp only;omega),dRq_ok,hp.2.2.2.1,dD32_ok,(by have:=hp.2.2.2.2;dsimp only;omega)⟩,hp.2.2.1,(((b3.pl 0).pl 1).pl 2)⟩))))
 ·have hend:n2=0∨i=true:=.inl (by omega)
  exact En (Lw (Zsk (En (Lud (Lt (LF (Lx (LsC (LsL (Lh (Dz (GoQ.done (.inr rfl) (fun a hf=>results0 rfl a hf) ⟨(⟨kd,o,0,dRq,q,u,b,dD32⟩:TBd),a1,i,b1,b2,rfl,(((if_neg (by omega)).trans ((if_neg (by omega)).trans (if_pos hkd)):getB kd (r,sp)=g4 (r,sp)).trans (by unfold g4;simp only [a7,a4,Int.toNat_natCast];rw [hp.2.1,prsP_end hend,hkd];rfl)),⟨hkr,(by first|omega|(dsimp only;omega)),(by dsimp only;omega),dRq_ok,hp.2.2.2.1,dD32_ok,(by have:=hp.2.2.2.2;dsimp only;omega)⟩,hp.2.2.1,(((a5.pl 2).pl 1).pl 2)⟩))))))))))))
end
end Go.Proofs.YtlomlmbbiopaaaaGreatDoor
