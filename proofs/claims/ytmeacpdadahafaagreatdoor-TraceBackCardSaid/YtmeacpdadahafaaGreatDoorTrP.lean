/-
  Flat structs with slices in them; Few at one step. Conditions: none beside each theorem's own.
-/
import Derived.Test.YtmeacpdadahafaaGreatDoorSxT
import Derived.Test.YtmeacpdadahafaaGreatDoorProg
namespace Go.Proofs.YtmeacpdadahafaaGreatDoor
open Go.RowKit Go.Sx
set_option linter.unusedVariables false
set_option linter.unusedSimpArgs false
set_option linter.unnecessarySimpa false
set_option maxRecDepth 100000
structure SlV where
 ad:Option Addr
 n:Nat
 c:Nat
structure OpV where
 kd_:Int
 y_:ByteArray
 v_:ByteArray
 o_:ByteArray
 t_:ByteArray
 am_:Int
def OpV.cells (o:OpV):Array Value:=#[.int .u8 o.kd_,.string o.y_,.string o.v_,.string o.o_,.string o.t_,.int .u64 o.am_]
abbrev pOp:OpV:=⟨0,⟨#[]⟩,⟨#[]⟩,⟨#[]⟩,⟨#[]⟩,0⟩
theorem opF:CellF OpV.cells 6:=⟨fun _=>rfl,fun _=>rfl⟩
def opSum (o:OpV):Nat:=o.y_.size+o.v_.size+o.o_.size+o.t_.size
def few (l:List OpV):Bool:=decide (l.length≤150) && l.all fun o=>decide (opSum o≤2000)
theorem few_false1 {l:List OpV}(h:¬ l.length≤150):few l=false:=by simp [few,h]
theorem few_false2 {l:List OpV}{k:Nat}{d:OpV}(hk:k<l.length) (h:2000<opSum (l.getD k d)):few l=false:=by
 have h1:∃ x∈l,2000<opSum x:=⟨l[k],List.getElem_mem hk,by simpa [List.getD_eq_getElem?_getD,List.getElem?_eq_getElem hk] using h⟩
 obtain⟨x,hx,h2⟩:=h1
 have h3:(l.all fun o=>decide (opSum o≤2000))=false:=by
  rw [List.all_eq_false]
  exact⟨x,hx,by simp;omega⟩
 rw [few,h3,Bool.and_false]
theorem few_true {l:List OpV}{d:OpV}(h1:l.length≤150) (h:∀ j,j<l.length→opSum (l.getD j d)≤2000):few l=true:=by
 have h3:(l.all fun o=>decide (opSum o≤2000))=true:=by
  rw [List.all_eq_true]
  intro x hx
  obtain⟨j,hj,rfl⟩:=List.getElem_of_mem hx
  have:=h j hj
  simpa [List.getD_eq_getElem?_getD,List.getElem?_eq_getElem hj] using this
 rw [few,h3,Bool.and_true]
 simpa using h1
def Small (o:OpV):Prop:=opSum o≤1000000000000000
theorem small_getD {l:List OpV}{d:OpV}(h:∀ o∈l,Small o) (k:Nat) (hk:k<l.length):opSum (l.getD k d)≤1000000000000000:=by
 have:l.getD k d=l[k]:=by simp [List.getD_eq_getElem?_getD,List.getElem?_eq_getElem hk]
 rw [this]
 exact h _ (List.getElem_mem hk)
theorem opsOK:ElemOK Tryz.prog 101 24 6 80:=⟨by kernel_rfl,⟨Tryz.t24,.agg #[.int .u8 0,.string ⟨#[]⟩,.string ⟨#[]⟩,.string ⟨#[]⟩,.string ⟨#[]⟩,.int .u64 0],by kernel_rfl,by kernel_rfl,by kernel_rfl,by kernel_rfl,by kernel_rfl⟩,by decide⟩
set_option maxHeartbeats 400000 in
theorem few_spec {w0 w:World}{L:List Asn}{ad:Option Addr}{c:Nat}(l:List OpV) (hb:∀ o∈l,Small o) (hln:l.length≤1000000000000000) (hr:∀ w,St w0 L w→RowsAt w ad l.length 6 (fun k=>OpV.cells (l.getD k pOp))) (hs:St w0 L w):Calls Tryz.prog 41 #[.slice ad l.length c] w (Ret fun rv w'=>rv=.bool (few l)∧St w0 L w'):=by
 refine enter (args:=[.slice ad l.length c]) Tryz.func41 rfl Tryz.ntmps41 (Nat.le_of_ble_eq_true (by kernel_rfl)) ?_
 refine Zn [(0,.slice ad l.length c)] ?_
 refine Zs ?_
 refine Zqt (.rd 0 .done) ?_
 refine Zr 0 1 [] ?_
 refine Zd (Zt (Zs (Zs ?_)))
 refine Zqt (.rd 0 (.rd 1 (.rd 2 .done))) ?_
 refine Zr 0 3 [] ?_
 refine Zd (Zt ?_)
 refine Zqc (t:=decide (((l.length:Nat):Int)>150)) (fun h1=>?_) (fun h1=>?_)
 ·have h1':((l.length:Nat):Int)>150:=of_decide_eq_true h1
  refine Zs ?_
  refine Zqt (.rd 0 .done) ?_
  refine Zr 0 1 [] ?_
  refine Zd (Zt (Ze (Zy ?_)))
  refine Zq1 (v:=.bool false) ?_
  exact⟨by rw [few_false1 (by omega)],hs⟩
 ·have h1':¬ (((l.length:Nat):Int)>150):=of_decide_eq_false h1
  refine Zk (Zt (Zs (Zs ?_)))
  refine Zqt (.rd 0 .done) ?_
  refine Zr 0 1 [] ?_
  refine Zd (Zt (Zb ?_))
  have h150:l.length≤150:=by omega
  refine GoC.loop (T:=Nat) (fun k=>[(0,.slice ad l.length c),(3,.int .i64 (k:Nat))]) (fun k w=>(k≤l.length∧∀ j,j<k→opSum (l.getD j pOp)≤2000)∧St w0 (L) w) (fun k=>l.length-k) (0) [0,3] (by kernel_rfl) ⟨⟨Nat.zero_le _,fun j hj=>absurd hj (Nat.not_lt_zero _)⟩,hs⟩ ?_
  rintro k w2 ⟨hp,hs3⟩
  refine Zn [(0,.slice ad l.length c),(3,.int .i64 (k:Nat))] ?_
  refine Zs (Zs ?_)
  refine Zqt (.rd 0 (.rd 1 (.rd 2 (.rd 3 .done)))) ?_
  refine Zr 0 4 [] ?_
  refine Zd (Zt ?_)
  refine Zqc (t:=decide (((k:Nat):Int)<(l.length:Nat))) (fun h4=>?_) (fun h4=>?_)
  ·have h4':((k:Nat):Int)<(l.length:Nat):=of_decide_eq_true h4
   have hk:k<l.length:=by omega
   have hsm:=small_getD (d:=pOp) hb k hk
   simp only [opSum] at hsm
   obtain⟨ab,ao,rfl⟩:=RowsAt.isSome (hr _ hs3) (by omega)
   refine Zk (Zt (Zs (Zb (Zs ?_))))
   refine GoC.regD [0,0,3,7,15,31,0,0,192,448,960,1984,4095,0,0,24576,57344,122880,253952,524287,0,0,3145728,7340032,15728640,32505856,67108863,134217727] (.rd 0 (.rd 1 (.rd 2 (.rd 3 (.rd 4 (.rd 5 (.rd 6 (.rd 7 (.rd 8 (.rd 9 (.rd 10 (.rd 11 (.rd 12 (.rd 13 (.rd 14 (.rd 15 (.rd 16 (.rd 17 (.rd 18 (.rd 19 (.rd 20 (.rd 21 (.rd 22 (.rd 23 (.rd 24 (.rd 25 (.rd 26 (.rd 27 .done)))))))))))))))))))))))))))) (by kernel_rfl) (by kernel_rfl) noPan_body (by kernel_rfl) hs3 ?_
   intro w5 hs6 hw7
   refine Zp 0 28 [(2,.as_ (zP ab (ao+(k*6))) .at_),(4,.gen [.string ((l.getD k pOp).y_)]),(8,.as_ (zP ab (ao+(k*6))) .at_),(10,.gen [.string ((l.getD k pOp).v_)]),(12,.as_ (.int .i64 ((((l.getD k pOp).y_).size:Nat)+(((l.getD k pOp).v_).size:Nat))) (.gen [])),(15,.as_ (zP ab (ao+(k*6))) .at_),(17,.gen [.string ((l.getD k pOp).o_)]),(19,.as_ (.int .i64 (((((l.getD k pOp).y_).size:Nat)+(((l.getD k pOp).v_).size:Nat))+(((l.getD k pOp).o_).size:Nat))) (.gen [])),(22,.as_ (zP ab (ao+(k*6))) .at_),(24,.gen [.string ((l.getD k pOp).t_)]),(26,.as_ (.int .i64 ((((((l.getD k pOp).y_).size:Nat)+(((l.getD k pOp).v_).size:Nat))+(((l.getD k pOp).o_).size:Nat))+(((l.getD k pOp).t_).size:Nat))) (.gen []))] [(2,[.prop (0≤((k:Nat):Int)∧((k:Nat):Int)<((l.length:Nat):Int)),.prop (Value.pointer (some (Addr.add ⟨ab,ao,none⟩ (Int.toNat (k:Nat)*6)))=Value.pointer (some ⟨ab,ao+(k*6),none⟩))]),(4,[.cell ⟨ab,ao+(k*6)+1,none⟩ (.string ((l.getD k pOp).y_))]),(8,[.prop (0≤((k:Nat):Int)∧((k:Nat):Int)<((l.length:Nat):Int)),.prop (Value.pointer (some (Addr.add ⟨ab,ao,none⟩ (Int.toNat (k:Nat)*6)))=Value.pointer (some ⟨ab,ao+(k*6),none⟩))]),(10,[.cell ⟨ab,ao+(k*6)+2,none⟩ (.string ((l.getD k pOp).v_))]),(12,[.prop (Value.int .i64 (IntKind.i64.wrap ((((l.getD k pOp).y_).size:Nat)+(((l.getD k pOp).v_).size:Nat)))=Value.int .i64 ((((l.getD k pOp).y_).size:Nat)+(((l.getD k pOp).v_).size:Nat)))]),(15,[.prop (0≤((k:Nat):Int)∧((k:Nat):Int)<((l.length:Nat):Int)),.prop (Value.pointer (some (Addr.add ⟨ab,ao,none⟩ (Int.toNat (k:Nat)*6)))=Value.pointer (some ⟨ab,ao+(k*6),none⟩))]),(17,[.cell ⟨ab,ao+(k*6)+3,none⟩ (.string ((l.getD k pOp).o_))]),(19,[.prop (Value.int .i64 (IntKind.i64.wrap (((((l.getD k pOp).y_).size:Nat)+(((l.getD k pOp).v_).size:Nat))+(((l.getD k pOp).o_).size:Nat)))=Value.int .i64 (((((l.getD k pOp).y_).size:Nat)+(((l.getD k pOp).v_).size:Nat))+(((l.getD k pOp).o_).size:Nat)))]),(22,[.prop (0≤((k:Nat):Int)∧((k:Nat):Int)<((l.length:Nat):Int)),.prop (Value.pointer (some (Addr.add ⟨ab,ao,none⟩ (Int.toNat (k:Nat)*6)))=Value.pointer (some ⟨ab,ao+(k*6),none⟩))]),(24,[.cell ⟨ab,ao+(k*6)+4,none⟩ (.string ((l.getD k pOp).t_))]),(26,[.prop (Value.int .i64 (IntKind.i64.wrap ((((((l.getD k pOp).y_).size:Nat)+(((l.getD k pOp).v_).size:Nat))+(((l.getD k pOp).o_).size:Nat))+(((l.getD k pOp).t_).size:Nat)))=Value.int .i64 ((((((l.getD k pOp).y_).size:Nat)+(((l.getD k pOp).v_).size:Nat))+(((l.getD k pOp).o_).size:Nat))+(((l.getD k pOp).t_).size:Nat)))])] (ak (okp (by omega) (okp (ptrAdd _ _ _) ok0)) (ak (okc (RowsAt.at0 (hr _ hs6) (k:=k) (by first|omega|(simp only [List.length_set];omega)|(simp only [List.length_set,List.length_append,List.length_cons,List.length_nil];omega)) (j:=1) (by decide) (by kernel_rfl)) ok0) (ak (okp (by omega) (okp (ptrAdd _ _ _) ok0)) (ak (okc (RowsAt.at0 (hr _ hs6) (k:=k) (by first|omega|(simp only [List.length_set];omega)|(simp only [List.length_set,List.length_append,List.length_cons,List.length_nil];omega)) (j:=2) (by decide) (by kernel_rfl)) ok0) (ak (okp (i64ok (by omega) (by omega)) ok0) (ak (okp (by omega) (okp (ptrAdd _ _ _) ok0)) (ak (okc (RowsAt.at0 (hr _ hs6) (k:=k) (by first|omega|(simp only [List.length_set];omega)|(simp only [List.length_set,List.length_append,List.length_cons,List.length_nil];omega)) (j:=3) (by decide) (by kernel_rfl)) ok0) (ak (okp (i64ok (by omega) (by omega)) ok0) (ak (okp (by omega) (okp (ptrAdd _ _ _) ok0)) (ak (okc (RowsAt.at0 (hr _ hs6) (k:=k) (by first|omega|(simp only [List.length_set];omega)|(simp only [List.length_set,List.length_append,List.length_cons,List.length_nil];omega)) (j:=4) (by decide) (by kernel_rfl)) ok0) (ak (okp (i64ok (by omega) (by omega)) ok0) ak0))))))))))) ?_
   refine Zd (Zt ?_)
   refine Zqc (t:=decide (((((((l.getD k pOp).y_).size:Nat)+(((l.getD k pOp).v_).size:Nat))+(((l.getD k pOp).o_).size:Nat))+(((l.getD k pOp).t_).size:Nat):Int)>2000)) (fun h8=>?_) (fun h8=>?_)
   ·have h8':((((((l.getD k pOp).y_).size:Nat)+(((l.getD k pOp).v_).size:Nat))+(((l.getD k pOp).o_).size:Nat))+(((l.getD k pOp).t_).size:Nat):Int)>2000:=of_decide_eq_true h8
    refine Zs ?_
    refine Zqt (.rd 0 .done) ?_
    refine Zr 0 1 [] ?_
    refine Zd (Zt (Ze (Zl (Zy (GoQ.skipLR (Zl (Zy ?_)))))))
    refine Zq1 (v:=.bool false) ?_
    exact⟨by rw [few_false2 (d:=pOp) hk (by simp only [opSum];omega)],hs6⟩
   ·have h8':¬ (((((((l.getD k pOp).y_).size:Nat)+(((l.getD k pOp).v_).size:Nat))+(((l.getD k pOp).o_).size:Nat))+(((l.getD k pOp).t_).size:Nat):Int)>2000):=of_decide_eq_false h8
    refine Zk (Zm (Zt ?_))
    refine Zqt (.rd 0 (.rd 1 (.rd 2 .done))) ?_
    refine Zp 0 3 [(1,.as_ (.int .i64 ((k:Nat)+1)) (.gen []))] [(1,[.prop (Value.int .i64 (IntKind.i64.wrap ((k:Nat)+1))=Value.int .i64 ((k:Nat)+1))])] (ak (okp (i64ok (by omega) (by omega)) ok0) ak0) ?_
    refine Zd ?_
    exact GoQ.back (k+1) [0,3] (by kernel_rfl) (by omega) ⟨⟨by omega,fun j hj=>(Nat.lt_succ_iff_lt_or_eq.1 hj).elim (fun h=>hp.2 j h) (fun e=>by subst e;simp only [opSum];omega)⟩,hs6⟩
  ·have h4':¬ (((k:Nat):Int)<(l.length:Nat)):=of_decide_eq_false h4
   refine Zx (GoQ.skipC (GoQ.skipL (GoQ.hit (Zt (Zs ?_)))))
   refine Zqt (.rd 0 .done) ?_
   refine Zr 0 1 [] ?_
   refine Zd (Zt (Ze ?_))
   refine Zq1 (v:=.bool true) ?_
   exact⟨by rw [few_true (d:=pOp) h150 (fun j hj=>hp.2 j (by omega))],hs3⟩
structure RqV where
 c_:Int
 tm_:Int
 op_:OpV
 g_:Vector Int 32
def RqV.cells (o:RqV):Array Value:=#[.int .i64 o.c_,.int .u64 o.tm_,.int .u8 o.op_.kd_,.string o.op_.y_,.string o.op_.v_,.string o.op_.o_,.string o.op_.t_,.int .u64 o.op_.am_,.int .u8 (o.g_[0]),.int .u8 (o.g_[1]),.int .u8 (o.g_[2]),.int .u8 (o.g_[3]),.int .u8 (o.g_[4]),.int .u8 (o.g_[5]),.int .u8 (o.g_[6]),.int .u8 (o.g_[7]),.int .u8 (o.g_[8]),.int .u8 (o.g_[9]),.int .u8 (o.g_[10]),.int .u8 (o.g_[11]),.int .u8 (o.g_[12]),.int .u8 (o.g_[13]),.int .u8 (o.g_[14]),.int .u8 (o.g_[15]),.int .u8 (o.g_[16]),.int .u8 (o.g_[17]),.int .u8 (o.g_[18]),.int .u8 (o.g_[19]),.int .u8 (o.g_[20]),.int .u8 (o.g_[21]),.int .u8 (o.g_[22]),.int .u8 (o.g_[23]),.int .u8 (o.g_[24]),.int .u8 (o.g_[25]),.int .u8 (o.g_[26]),.int .u8 (o.g_[27]),.int .u8 (o.g_[28]),.int .u8 (o.g_[29]),.int .u8 (o.g_[30]),.int .u8 (o.g_[31])]
structure BdV where
 kd_:Int
 vw_:Int
 k_:Int
 r_:RqV
 q_:SlV
 d_:Vector Int 32
def BdV.cells (o:BdV):Array Value:=#[.int .u8 o.kd_,.int .u64 o.vw_,.int .u64 o.k_,.int .i64 o.r_.c_,.int .u64 o.r_.tm_,.int .u8 o.r_.op_.kd_,.string o.r_.op_.y_,.string o.r_.op_.v_,.string o.r_.op_.o_,.string o.r_.op_.t_,.int .u64 o.r_.op_.am_,.int .u8 (o.r_.g_[0]),.int .u8 (o.r_.g_[1]),.int .u8 (o.r_.g_[2]),.int .u8 (o.r_.g_[3]),.int .u8 (o.r_.g_[4]),.int .u8 (o.r_.g_[5]),.int .u8 (o.r_.g_[6]),.int .u8 (o.r_.g_[7]),.int .u8 (o.r_.g_[8]),.int .u8 (o.r_.g_[9]),.int .u8 (o.r_.g_[10]),.int .u8 (o.r_.g_[11]),.int .u8 (o.r_.g_[12]),.int .u8 (o.r_.g_[13]),.int .u8 (o.r_.g_[14]),.int .u8 (o.r_.g_[15]),.int .u8 (o.r_.g_[16]),.int .u8 (o.r_.g_[17]),.int .u8 (o.r_.g_[18]),.int .u8 (o.r_.g_[19]),.int .u8 (o.r_.g_[20]),.int .u8 (o.r_.g_[21]),.int .u8 (o.r_.g_[22]),.int .u8 (o.r_.g_[23]),.int .u8 (o.r_.g_[24]),.int .u8 (o.r_.g_[25]),.int .u8 (o.r_.g_[26]),.int .u8 (o.r_.g_[27]),.int .u8 (o.r_.g_[28]),.int .u8 (o.r_.g_[29]),.int .u8 (o.r_.g_[30]),.int .u8 (o.r_.g_[31]),.slice o.q_.ad o.q_.n o.q_.c,.int .u8 (o.d_[0]),.int .u8 (o.d_[1]),.int .u8 (o.d_[2]),.int .u8 (o.d_[3]),.int .u8 (o.d_[4]),.int .u8 (o.d_[5]),.int .u8 (o.d_[6]),.int .u8 (o.d_[7]),.int .u8 (o.d_[8]),.int .u8 (o.d_[9]),.int .u8 (o.d_[10]),.int .u8 (o.d_[11]),.int .u8 (o.d_[12]),.int .u8 (o.d_[13]),.int .u8 (o.d_[14]),.int .u8 (o.d_[15]),.int .u8 (o.d_[16]),.int .u8 (o.d_[17]),.int .u8 (o.d_[18]),.int .u8 (o.d_[19]),.int .u8 (o.d_[20]),.int .u8 (o.d_[21]),.int .u8 (o.d_[22]),.int .u8 (o.d_[23]),.int .u8 (o.d_[24]),.int .u8 (o.d_[25]),.int .u8 (o.d_[26]),.int .u8 (o.d_[27]),.int .u8 (o.d_[28]),.int .u8 (o.d_[29]),.int .u8 (o.d_[30]),.int .u8 (o.d_[31])]
structure MsV where
 og_:Int
 nu_:Int
 dp_:Vector Int 11
 b_:BdV
 g_:Vector Int 32
def MsV.cells (o:MsV):Array Value:=#[.int .i64 o.og_,.int .u64 o.nu_,.int .u64 (o.dp_[0]),.int .u64 (o.dp_[1]),.int .u64 (o.dp_[2]),.int .u64 (o.dp_[3]),.int .u64 (o.dp_[4]),.int .u64 (o.dp_[5]),.int .u64 (o.dp_[6]),.int .u64 (o.dp_[7]),.int .u64 (o.dp_[8]),.int .u64 (o.dp_[9]),.int .u64 (o.dp_[10]),.int .u8 o.b_.kd_,.int .u64 o.b_.vw_,.int .u64 o.b_.k_,.int .i64 o.b_.r_.c_,.int .u64 o.b_.r_.tm_,.int .u8 o.b_.r_.op_.kd_,.string o.b_.r_.op_.y_,.string o.b_.r_.op_.v_,.string o.b_.r_.op_.o_,.string o.b_.r_.op_.t_,.int .u64 o.b_.r_.op_.am_,.int .u8 (o.b_.r_.g_[0]),.int .u8 (o.b_.r_.g_[1]),.int .u8 (o.b_.r_.g_[2]),.int .u8 (o.b_.r_.g_[3]),.int .u8 (o.b_.r_.g_[4]),.int .u8 (o.b_.r_.g_[5]),.int .u8 (o.b_.r_.g_[6]),.int .u8 (o.b_.r_.g_[7]),.int .u8 (o.b_.r_.g_[8]),.int .u8 (o.b_.r_.g_[9]),.int .u8 (o.b_.r_.g_[10]),.int .u8 (o.b_.r_.g_[11]),.int .u8 (o.b_.r_.g_[12]),.int .u8 (o.b_.r_.g_[13]),.int .u8 (o.b_.r_.g_[14]),.int .u8 (o.b_.r_.g_[15]),.int .u8 (o.b_.r_.g_[16]),.int .u8 (o.b_.r_.g_[17]),.int .u8 (o.b_.r_.g_[18]),.int .u8 (o.b_.r_.g_[19]),.int .u8 (o.b_.r_.g_[20]),.int .u8 (o.b_.r_.g_[21]),.int .u8 (o.b_.r_.g_[22]),.int .u8 (o.b_.r_.g_[23]),.int .u8 (o.b_.r_.g_[24]),.int .u8 (o.b_.r_.g_[25]),.int .u8 (o.b_.r_.g_[26]),.int .u8 (o.b_.r_.g_[27]),.int .u8 (o.b_.r_.g_[28]),.int .u8 (o.b_.r_.g_[29]),.int .u8 (o.b_.r_.g_[30]),.int .u8 (o.b_.r_.g_[31]),.slice o.b_.q_.ad o.b_.q_.n o.b_.q_.c,.int .u8 (o.b_.d_[0]),.int .u8 (o.b_.d_[1]),.int .u8 (o.b_.d_[2]),.int .u8 (o.b_.d_[3]),.int .u8 (o.b_.d_[4]),.int .u8 (o.b_.d_[5]),.int .u8 (o.b_.d_[6]),.int .u8 (o.b_.d_[7]),.int .u8 (o.b_.d_[8]),.int .u8 (o.b_.d_[9]),.int .u8 (o.b_.d_[10]),.int .u8 (o.b_.d_[11]),.int .u8 (o.b_.d_[12]),.int .u8 (o.b_.d_[13]),.int .u8 (o.b_.d_[14]),.int .u8 (o.b_.d_[15]),.int .u8 (o.b_.d_[16]),.int .u8 (o.b_.d_[17]),.int .u8 (o.b_.d_[18]),.int .u8 (o.b_.d_[19]),.int .u8 (o.b_.d_[20]),.int .u8 (o.b_.d_[21]),.int .u8 (o.b_.d_[22]),.int .u8 (o.b_.d_[23]),.int .u8 (o.b_.d_[24]),.int .u8 (o.b_.d_[25]),.int .u8 (o.b_.d_[26]),.int .u8 (o.b_.d_[27]),.int .u8 (o.b_.d_[28]),.int .u8 (o.b_.d_[29]),.int .u8 (o.b_.d_[30]),.int .u8 (o.b_.d_[31]),.int .u8 (o.g_[0]),.int .u8 (o.g_[1]),.int .u8 (o.g_[2]),.int .u8 (o.g_[3]),.int .u8 (o.g_[4]),.int .u8 (o.g_[5]),.int .u8 (o.g_[6]),.int .u8 (o.g_[7]),.int .u8 (o.g_[8]),.int .u8 (o.g_[9]),.int .u8 (o.g_[10]),.int .u8 (o.g_[11]),.int .u8 (o.g_[12]),.int .u8 (o.g_[13]),.int .u8 (o.g_[14]),.int .u8 (o.g_[15]),.int .u8 (o.g_[16]),.int .u8 (o.g_[17]),.int .u8 (o.g_[18]),.int .u8 (o.g_[19]),.int .u8 (o.g_[20]),.int .u8 (o.g_[21]),.int .u8 (o.g_[22]),.int .u8 (o.g_[23]),.int .u8 (o.g_[24]),.int .u8 (o.g_[25]),.int .u8 (o.g_[26]),.int .u8 (o.g_[27]),.int .u8 (o.g_[28]),.int .u8 (o.g_[29]),.int .u8 (o.g_[30]),.int .u8 (o.g_[31])]
structure PkV where
 f_:Int
 t_:Int
 kn_:Vector Int 11
def PkV.cells (mad:Option Addr) (mn mc:Nat) (o:PkV):Array Value:=#[.int .i64 o.f_,.int .i64 o.t_,.int .u64 (o.kn_[0]),.int .u64 (o.kn_[1]),.int .u64 (o.kn_[2]),.int .u64 (o.kn_[3]),.int .u64 (o.kn_[4]),.int .u64 (o.kn_[5]),.int .u64 (o.kn_[6]),.int .u64 (o.kn_[7]),.int .u64 (o.kn_[8]),.int .u64 (o.kn_[9]),.int .u64 (o.kn_[10]),.slice mad mn mc]
structure RepV where
 er_:Int
 v_:ByteArray
def RepV.cells (o:RepV):Array Value:=#[.int .i64 o.er_,.string o.v_]
structure ApV where
 do_:Int
 c_:Int
 w_:Int
 j_:Int
 k_:Int
 n_:Int
 op_:OpV
 b_:BdV
 p_:PkV
 tm_:Int
 re_:RepV
 at_:Int
 pi_:SlV
def ApV.cells (mad:Option Addr) (mn mc:Nat) (o:ApV):Array Value:=#[.int .u8 o.do_,.int .i64 o.c_,.int .i64 o.w_,.int .i64 o.j_,.int .i64 o.k_,.int .i64 o.n_,.int .u8 o.op_.kd_,.string o.op_.y_,.string o.op_.v_,.string o.op_.o_,.string o.op_.t_,.int .u64 o.op_.am_,.int .u8 o.b_.kd_,.int .u64 o.b_.vw_,.int .u64 o.b_.k_,.int .i64 o.b_.r_.c_,.int .u64 o.b_.r_.tm_,.int .u8 o.b_.r_.op_.kd_,.string o.b_.r_.op_.y_,.string o.b_.r_.op_.v_,.string o.b_.r_.op_.o_,.string o.b_.r_.op_.t_,.int .u64 o.b_.r_.op_.am_,.int .u8 (o.b_.r_.g_[0]),.int .u8 (o.b_.r_.g_[1]),.int .u8 (o.b_.r_.g_[2]),.int .u8 (o.b_.r_.g_[3]),.int .u8 (o.b_.r_.g_[4]),.int .u8 (o.b_.r_.g_[5]),.int .u8 (o.b_.r_.g_[6]),.int .u8 (o.b_.r_.g_[7]),.int .u8 (o.b_.r_.g_[8]),.int .u8 (o.b_.r_.g_[9]),.int .u8 (o.b_.r_.g_[10]),.int .u8 (o.b_.r_.g_[11]),.int .u8 (o.b_.r_.g_[12]),.int .u8 (o.b_.r_.g_[13]),.int .u8 (o.b_.r_.g_[14]),.int .u8 (o.b_.r_.g_[15]),.int .u8 (o.b_.r_.g_[16]),.int .u8 (o.b_.r_.g_[17]),.int .u8 (o.b_.r_.g_[18]),.int .u8 (o.b_.r_.g_[19]),.int .u8 (o.b_.r_.g_[20]),.int .u8 (o.b_.r_.g_[21]),.int .u8 (o.b_.r_.g_[22]),.int .u8 (o.b_.r_.g_[23]),.int .u8 (o.b_.r_.g_[24]),.int .u8 (o.b_.r_.g_[25]),.int .u8 (o.b_.r_.g_[26]),.int .u8 (o.b_.r_.g_[27]),.int .u8 (o.b_.r_.g_[28]),.int .u8 (o.b_.r_.g_[29]),.int .u8 (o.b_.r_.g_[30]),.int .u8 (o.b_.r_.g_[31]),.slice o.b_.q_.ad o.b_.q_.n o.b_.q_.c,.int .u8 (o.b_.d_[0]),.int .u8 (o.b_.d_[1]),.int .u8 (o.b_.d_[2]),.int .u8 (o.b_.d_[3]),.int .u8 (o.b_.d_[4]),.int .u8 (o.b_.d_[5]),.int .u8 (o.b_.d_[6]),.int .u8 (o.b_.d_[7]),.int .u8 (o.b_.d_[8]),.int .u8 (o.b_.d_[9]),.int .u8 (o.b_.d_[10]),.int .u8 (o.b_.d_[11]),.int .u8 (o.b_.d_[12]),.int .u8 (o.b_.d_[13]),.int .u8 (o.b_.d_[14]),.int .u8 (o.b_.d_[15]),.int .u8 (o.b_.d_[16]),.int .u8 (o.b_.d_[17]),.int .u8 (o.b_.d_[18]),.int .u8 (o.b_.d_[19]),.int .u8 (o.b_.d_[20]),.int .u8 (o.b_.d_[21]),.int .u8 (o.b_.d_[22]),.int .u8 (o.b_.d_[23]),.int .u8 (o.b_.d_[24]),.int .u8 (o.b_.d_[25]),.int .u8 (o.b_.d_[26]),.int .u8 (o.b_.d_[27]),.int .u8 (o.b_.d_[28]),.int .u8 (o.b_.d_[29]),.int .u8 (o.b_.d_[30]),.int .u8 (o.b_.d_[31]),.int .i64 o.p_.f_,.int .i64 o.p_.t_,.int .u64 (o.p_.kn_[0]),.int .u64 (o.p_.kn_[1]),.int .u64 (o.p_.kn_[2]),.int .u64 (o.p_.kn_[3]),.int .u64 (o.p_.kn_[4]),.int .u64 (o.p_.kn_[5]),.int .u64 (o.p_.kn_[6]),.int .u64 (o.p_.kn_[7]),.int .u64 (o.p_.kn_[8]),.int .u64 (o.p_.kn_[9]),.int .u64 (o.p_.kn_[10]),.slice mad mn mc,.int .u64 o.tm_,.int .i64 o.re_.er_,.string o.re_.v_,.int .u64 o.at_,.slice o.pi_.ad o.pi_.n o.pi_.c]
structure S6V where
 s_:ApV
 ne_:Bool
def S6V.cells (mad:Option Addr) (mn mc:Nat) (o:S6V):Array Value:=#[.int .u8 o.s_.do_,.int .i64 o.s_.c_,.int .i64 o.s_.w_,.int .i64 o.s_.j_,.int .i64 o.s_.k_,.int .i64 o.s_.n_,.int .u8 o.s_.op_.kd_,.string o.s_.op_.y_,.string o.s_.op_.v_,.string o.s_.op_.o_,.string o.s_.op_.t_,.int .u64 o.s_.op_.am_,.int .u8 o.s_.b_.kd_,.int .u64 o.s_.b_.vw_,.int .u64 o.s_.b_.k_,.int .i64 o.s_.b_.r_.c_,.int .u64 o.s_.b_.r_.tm_,.int .u8 o.s_.b_.r_.op_.kd_,.string o.s_.b_.r_.op_.y_,.string o.s_.b_.r_.op_.v_,.string o.s_.b_.r_.op_.o_,.string o.s_.b_.r_.op_.t_,.int .u64 o.s_.b_.r_.op_.am_,.int .u8 (o.s_.b_.r_.g_[0]),.int .u8 (o.s_.b_.r_.g_[1]),.int .u8 (o.s_.b_.r_.g_[2]),.int .u8 (o.s_.b_.r_.g_[3]),.int .u8 (o.s_.b_.r_.g_[4]),.int .u8 (o.s_.b_.r_.g_[5]),.int .u8 (o.s_.b_.r_.g_[6]),.int .u8 (o.s_.b_.r_.g_[7]),.int .u8 (o.s_.b_.r_.g_[8]),.int .u8 (o.s_.b_.r_.g_[9]),.int .u8 (o.s_.b_.r_.g_[10]),.int .u8 (o.s_.b_.r_.g_[11]),.int .u8 (o.s_.b_.r_.g_[12]),.int .u8 (o.s_.b_.r_.g_[13]),.int .u8 (o.s_.b_.r_.g_[14]),.int .u8 (o.s_.b_.r_.g_[15]),.int .u8 (o.s_.b_.r_.g_[16]),.int .u8 (o.s_.b_.r_.g_[17]),.int .u8 (o.s_.b_.r_.g_[18]),.int .u8 (o.s_.b_.r_.g_[19]),.int .u8 (o.s_.b_.r_.g_[20]),.int .u8 (o.s_.b_.r_.g_[21]),.int .u8 (o.s_.b_.r_.g_[22]),.int .u8 (o.s_.b_.r_.g_[23]),.int .u8 (o.s_.b_.r_.g_[24]),.int .u8 (o.s_.b_.r_.g_[25]),.int .u8 (o.s_.b_.r_.g_[26]),.int .u8 (o.s_.b_.r_.g_[27]),.int .u8 (o.s_.b_.r_.g_[28]),.int .u8 (o.s_.b_.r_.g_[29]),.int .u8 (o.s_.b_.r_.g_[30]),.int .u8 (o.s_.b_.r_.g_[31]),.slice o.s_.b_.q_.ad o.s_.b_.q_.n o.s_.b_.q_.c,.int .u8 (o.s_.b_.d_[0]),.int .u8 (o.s_.b_.d_[1]),.int .u8 (o.s_.b_.d_[2]),.int .u8 (o.s_.b_.d_[3]),.int .u8 (o.s_.b_.d_[4]),.int .u8 (o.s_.b_.d_[5]),.int .u8 (o.s_.b_.d_[6]),.int .u8 (o.s_.b_.d_[7]),.int .u8 (o.s_.b_.d_[8]),.int .u8 (o.s_.b_.d_[9]),.int .u8 (o.s_.b_.d_[10]),.int .u8 (o.s_.b_.d_[11]),.int .u8 (o.s_.b_.d_[12]),.int .u8 (o.s_.b_.d_[13]),.int .u8 (o.s_.b_.d_[14]),.int .u8 (o.s_.b_.d_[15]),.int .u8 (o.s_.b_.d_[16]),.int .u8 (o.s_.b_.d_[17]),.int .u8 (o.s_.b_.d_[18]),.int .u8 (o.s_.b_.d_[19]),.int .u8 (o.s_.b_.d_[20]),.int .u8 (o.s_.b_.d_[21]),.int .u8 (o.s_.b_.d_[22]),.int .u8 (o.s_.b_.d_[23]),.int .u8 (o.s_.b_.d_[24]),.int .u8 (o.s_.b_.d_[25]),.int .u8 (o.s_.b_.d_[26]),.int .u8 (o.s_.b_.d_[27]),.int .u8 (o.s_.b_.d_[28]),.int .u8 (o.s_.b_.d_[29]),.int .u8 (o.s_.b_.d_[30]),.int .u8 (o.s_.b_.d_[31]),.int .i64 o.s_.p_.f_,.int .i64 o.s_.p_.t_,.int .u64 (o.s_.p_.kn_[0]),.int .u64 (o.s_.p_.kn_[1]),.int .u64 (o.s_.p_.kn_[2]),.int .u64 (o.s_.p_.kn_[3]),.int .u64 (o.s_.p_.kn_[4]),.int .u64 (o.s_.p_.kn_[5]),.int .u64 (o.s_.p_.kn_[6]),.int .u64 (o.s_.p_.kn_[7]),.int .u64 (o.s_.p_.kn_[8]),.int .u64 (o.s_.p_.kn_[9]),.int .u64 (o.s_.p_.kn_[10]),.slice mad mn mc,.int .u64 o.s_.tm_,.int .i64 o.s_.re_.er_,.string o.s_.re_.v_,.int .u64 o.s_.at_,.slice o.s_.pi_.ad o.s_.pi_.n o.s_.pi_.c,.bool o.ne_]
abbrev pMs:MsV:=⟨0,0,#v[0,0,0,0,0,0,0,0,0,0,0],⟨0,0,0,⟨0,0,⟨0,⟨#[]⟩,⟨#[]⟩,⟨#[]⟩,⟨#[]⟩,0⟩,#v[0,0,0,0,0,0,0,0,0,0,0,0,0,0,0,0,0,0,0,0,0,0,0,0,0,0,0,0,0,0,0,0]⟩,⟨none,0,0⟩,#v[0,0,0,0,0,0,0,0,0,0,0,0,0,0,0,0,0,0,0,0,0,0,0,0,0,0,0,0,0,0,0,0]⟩,#v[0,0,0,0,0,0,0,0,0,0,0,0,0,0,0,0,0,0,0,0,0,0,0,0,0,0,0,0,0,0,0,0]⟩
abbrev dS6:S6V:=⟨⟨0,0,0,0,0,0,⟨0,⟨#[]⟩,⟨#[]⟩,⟨#[]⟩,⟨#[]⟩,0⟩,⟨0,0,0,⟨0,0,⟨0,⟨#[]⟩,⟨#[]⟩,⟨#[]⟩,⟨#[]⟩,0⟩,#v[0,0,0,0,0,0,0,0,0,0,0,0,0,0,0,0,0,0,0,0,0,0,0,0,0,0,0,0,0,0,0,0]⟩,⟨none,0,0⟩,#v[0,0,0,0,0,0,0,0,0,0,0,0,0,0,0,0,0,0,0,0,0,0,0,0,0,0,0,0,0,0,0,0]⟩,⟨0,0,#v[0,0,0,0,0,0,0,0,0,0,0]⟩,0,⟨0,⟨#[]⟩⟩,0,⟨none,0,0⟩⟩,false⟩
theorem s6F (mad:Option Addr) (mn mc:Nat):CellF (S6V.cells mad mn mc) 108:=⟨fun _=>rfl,fun _=>rfl⟩
structure G26 where
 k:Nat
 l:List OpV
 ad:Option Addr
 c:Nat
set_option maxHeartbeats 4000000 in
theorem few26_spec {w0 w:World}{L:List Asn}{ad mad:Option Addr}{c mc:Nat}(x:ApV) (near:Bool) (ms:List MsV) (hsm:Small x.op_) (hsm2:Small x.b_.r_.op_) (hr:∀ w,St w0 L w→RowsAt w ad 1 108 (fun k=>S6V.cells mad ms.length mc ([⟨x,near⟩].getD k dS6))) (hm:∀ w,St w0 L w→RowsAt w mad ms.length 121 (fun k=>MsV.cells (ms.getD k pMs))) (hs:St w0 L w):Calls Tryz.prog 10 #[.slice ad 1 c,.int .i64 1] w (Ret fun rv w'=>∃ b:Bool,rv=.bool b∧St w0 L w'):=by
 refine enter (args:=[.slice ad 1 c,.int .i64 1]) Tryz.func10 rfl Tryz.ntmps10 (Nat.le_of_ble_eq_true (by kernel_rfl)) ?_
 refine Zn [(0,.slice ad 1 c),(1,.int .i64 1)] ?_
 refine Zs ?_
 refine Zqt (.rd 0 .done) ?_
 refine Zr 0 1 [] ?_
 refine Zd (Zt (Zs (Zs ?_)))
 refine Zqt (.rd 0 (.rd 1 (.rd 2 (.rd 3 .done)))) ?_
 refine Zr 0 4 [] ?_
 refine Zd (Zt ?_)
 refine Zqc (t:=decide (((1:Nat):Int)>1)) (fun h1=>?_) (fun h1=>?_)
 ·have h1':((1:Nat):Int)>1:=of_decide_eq_true h1
  refine Zs ?_
  refine Zqt (.rd 0 .done) ?_
  refine Zr 0 1 [] ?_
  refine Zd (Zt (Ze (Zy ?_)))
  refine Zq1 (v:=.bool false) ?_
  exact⟨_,rfl,hs.drop 0⟩
 ·have h1':¬ (((1:Nat):Int)>1):=of_decide_eq_false h1
  refine Zk (Zt (Zs ?_))
  refine Zqt (.rd 0 .done) ?_
  refine Zr 0 1 [] ?_
  refine Zd (Zt (Zs (Zs ?_)))
  refine Zqt (.rd 0 .done) ?_
  refine Zr 0 1 [] ?_
  refine Zd (Zt (Zb ?_))
  refine GoC.loop (T:=G26) (fun g=>[(0,.slice ad 1 c),(5,.slice g.ad g.l.length g.c),(6,.int .i64 (g.k:Nat))]) (fun g w=>(g.k≤1∧g.l.length=2*g.k∧∀ q∈g.l,Small q)∧St w0 ((Sl g.ad g.c 24 6 OpV.cells g.l)::L) w) (fun g=>1-g.k) (⟨0,[],none,0⟩) [0,5,6] (by kernel_rfl) ⟨⟨Nat.zero_le _,rfl,fun q hq=>by cases hq⟩,(hs.slNil 24 6 OpV.cells)⟩ ?_
  rintro g w2 ⟨hp,hs3⟩
  refine Zn [(0,.slice ad 1 c),(5,.slice g.ad g.l.length g.c),(6,.int .i64 (g.k:Nat))] ?_
  refine Zs (Zs ?_)
  refine Zqt (.rd 0 (.rd 1 (.rd 2 (.rd 3 .done)))) ?_
  refine Zr 0 4 [] ?_
  refine Zd (Zt ?_)
  refine Zqc (t:=decide (((g.k:Nat):Int)<(1:Nat))) (fun h4=>?_) (fun h4=>?_)
  ·have h4':((g.k:Nat):Int)<(1:Nat):=of_decide_eq_true h4
   have hk:g.k=0:=by omega
   have he:[⟨x,near⟩].getD g.k dS6=(⟨x,near⟩:S6V):=by rw [hk];rfl
   obtain⟨bb,bo,rfl⟩:=RowsAt.isSome (hr _ (hs3.drop 1)) (by omega)
   refine Zk (Zt (Zs (Zb (Zs ?_))))
   refine Zqt (.rd 0 (.rd 1 (.rd 2 (.rd 3 (.rd 4 (.ef 5 (.ef 6 .done))))))) ?_
   refine Zp 0 5 [(2,.as_ (zP bb (bo+(g.k*108))) .at_),(4,.agg (ApV.cells mad ms.length mc ((([⟨x,near⟩]).getD g.k dS6).s_)))] [(2,[.prop (0≤((g.k:Nat):Int)∧((g.k:Nat):Int)<(1:Int)),.prop (Value.pointer (some (Addr.add ⟨bb,bo,none⟩ (Int.toNat (g.k:Nat)*108)))=Value.pointer (some ⟨bb,bo+(g.k*108),none⟩))]),(4,[.prop (Array.size (ApV.cells mad ms.length mc ((([⟨x,near⟩]).getD g.k dS6).s_))=107),.cells ⟨bb,bo+(g.k*108),none⟩ (ApV.cells mad ms.length mc ((([⟨x,near⟩]).getD g.k dS6).s_))])] (ak (okp (by omega) (okp (ptrAdd _ _ _) ok0)) (ak (okp (by kernel_rfl) (oka (RowsAt.all0 (hr _ (hs3.drop 1)) (by first|omega|(simp only [List.length_set];omega)|(simp only [List.length_set,List.length_append,List.length_cons,List.length_nil];omega)) (Nat.le_of_ble_eq_true (by kernel_rfl)) (by kernel_rfl)) ok0)) ak0)) ?_
   refine GoR.alloc rfl rfl (by kernel_rfl) (z:=.agg #[.int .u8 0,.int .i64 0,.int .i64 0,.int .i64 0,.int .i64 0,.int .i64 0,.int .u8 0,.string (⟨#[]⟩:ByteArray),.string (⟨#[]⟩:ByteArray),.string (⟨#[]⟩:ByteArray),.string (⟨#[]⟩:ByteArray),.int .u64 0,.int .u8 0,.int .u64 0,.int .u64 0,.int .i64 0,.int .u64 0,.int .u8 0,.string (⟨#[]⟩:ByteArray),.string (⟨#[]⟩:ByteArray),.string (⟨#[]⟩:ByteArray),.string (⟨#[]⟩:ByteArray),.int .u64 0,.int .u8 0,.int .u8 0,.int .u8 0,.int .u8 0,.int .u8 0,.int .u8 0,.int .u8 0,.int .u8 0,.int .u8 0,.int .u8 0,.int .u8 0,.int .u8 0,.int .u8 0,.int .u8 0,.int .u8 0,.int .u8 0,.int .u8 0,.int .u8 0,.int .u8 0,.int .u8 0,.int .u8 0,.int .u8 0,.int .u8 0,.int .u8 0,.int .u8 0,.int .u8 0,.int .u8 0,.int .u8 0,.int .u8 0,.int .u8 0,.int .u8 0,.int .u8 0,.slice none 0 0,.int .u8 0,.int .u8 0,.int .u8 0,.int .u8 0,.int .u8 0,.int .u8 0,.int .u8 0,.int .u8 0,.int .u8 0,.int .u8 0,.int .u8 0,.int .u8 0,.int .u8 0,.int .u8 0,.int .u8 0,.int .u8 0,.int .u8 0,.int .u8 0,.int .u8 0,.int .u8 0,.int .u8 0,.int .u8 0,.int .u8 0,.int .u8 0,.int .u8 0,.int .u8 0,.int .u8 0,.int .u8 0,.int .u8 0,.int .u8 0,.int .u8 0,.int .u8 0,.int .i64 0,.int .i64 0,.int .u64 0,.int .u64 0,.int .u64 0,.int .u64 0,.int .u64 0,.int .u64 0,.int .u64 0,.int .u64 0,.int .u64 0,.int .u64 0,.int .u64 0,.slice none 0 0,.int .u64 0,.int .i64 0,.string (⟨#[]⟩:ByteArray),.int .u64 0,.slice none 0 0]) (by kernel_rfl) hs3 (cs:=#[.int .u8 0,.int .i64 0,.int .i64 0,.int .i64 0,.int .i64 0,.int .i64 0,.int .u8 0,.string (⟨#[]⟩:ByteArray),.string (⟨#[]⟩:ByteArray),.string (⟨#[]⟩:ByteArray),.string (⟨#[]⟩:ByteArray),.int .u64 0,.int .u8 0,.int .u64 0,.int .u64 0,.int .i64 0,.int .u64 0,.int .u8 0,.string (⟨#[]⟩:ByteArray),.string (⟨#[]⟩:ByteArray),.string (⟨#[]⟩:ByteArray),.string (⟨#[]⟩:ByteArray),.int .u64 0,.int .u8 0,.int .u8 0,.int .u8 0,.int .u8 0,.int .u8 0,.int .u8 0,.int .u8 0,.int .u8 0,.int .u8 0,.int .u8 0,.int .u8 0,.int .u8 0,.int .u8 0,.int .u8 0,.int .u8 0,.int .u8 0,.int .u8 0,.int .u8 0,.int .u8 0,.int .u8 0,.int .u8 0,.int .u8 0,.int .u8 0,.int .u8 0,.int .u8 0,.int .u8 0,.int .u8 0,.int .u8 0,.int .u8 0,.int .u8 0,.int .u8 0,.int .u8 0,.slice none 0 0,.int .u8 0,.int .u8 0,.int .u8 0,.int .u8 0,.int .u8 0,.int .u8 0,.int .u8 0,.int .u8 0,.int .u8 0,.int .u8 0,.int .u8 0,.int .u8 0,.int .u8 0,.int .u8 0,.int .u8 0,.int .u8 0,.int .u8 0,.int .u8 0,.int .u8 0,.int .u8 0,.int .u8 0,.int .u8 0,.int .u8 0,.int .u8 0,.int .u8 0,.int .u8 0,.int .u8 0,.int .u8 0,.int .u8 0,.int .u8 0,.int .u8 0,.int .u8 0,.int .i64 0,.int .i64 0,.int .u64 0,.int .u64 0,.int .u64 0,.int .u64 0,.int .u64 0,.int .u64 0,.int .u64 0,.int .u64 0,.int .u64 0,.int .u64 0,.int .u64 0,.slice none 0 0,.int .u64 0,.int .i64 0,.string (⟨#[]⟩:ByteArray),.int .u64 0,.slice none 0 0]) (by kernel_rfl) ?_
   intro b5 w6 hs7
   refine⟨Zqo,?_⟩
   refine Zw (b:=b5) (off:=0) (v:=.agg (ApV.cells mad ms.length mc ((([⟨x,near⟩]).getD g.k dS6).s_))) (ti:=Tryz.t41) (by kernel_rfl) hs7 0 (L':=(Cel b5 (ApV.cells mad ms.length mc ((([⟨x,near⟩]).getD g.k dS6).s_)) 41)::(Sl g.ad g.c 24 6 OpV.cells g.l)::L) ?_
   intro w8 hs9
   refine⟨Zqo,?_⟩
   refine Zd (Zt (Zs (Zs ?_)))
   refine GoC.join (T:=Unit) (E:=fun _=>[(48,.bool ((((decide ((((((([⟨x,near⟩]).getD g.k dS6).s_).b_).q_.n:Nat):Int)>20)) || (decide (((ms.length:Nat):Int)>20))) || (decide (((((([⟨x,near⟩]).getD g.k dS6).s_).pi_.n:Nat):Int)>60))) || (decide (((((((([⟨x,near⟩]).getD g.k dS6).s_).re_).v_).size:Nat):Int)>1000)))),(7,zP b5 0),(0,zL bb bo 1 c),(5,.slice g.ad g.l.length g.c),(6,.int .i64 (g.k:Nat))]) (F:=fun _ w=>St w0 ((Cel b5 (ApV.cells mad ms.length mc ((([⟨x,near⟩]).getD g.k dS6).s_)) 41)::(Sl g.ad g.c 24 6 OpV.cells g.l)::L) w) ?_ ?_
   ·refine Zqt (.rd 0 (.rd 1 (.rd 2 (.rd 3 (.rd 4 (.rd 5 (.rd 6 (.rd 7 (.rd 8 (.rd 9 (.rd 10 (.rd 11 (.rd 12 (.rd 13 (.rd 14 (.rd 15 (.rd 16 (.rd 17 (.rd 18 (.rd 19 (.rd 20 (.rd 21 (.rd 22 (.rd 23 (.rd 24 .done))))))))))))))))))))))))) ?_
    refine Zp 0 6 [(2,.gen [.slice ((((([⟨x,near⟩]).getD g.k dS6).s_).b_).q_.ad) ((((([⟨x,near⟩]).getD g.k dS6).s_).b_).q_.n) ((((([⟨x,near⟩]).getD g.k dS6).s_).b_).q_.c)])] [(2,[.cell ⟨b5,55,none⟩ (.slice ((((([⟨x,near⟩]).getD g.k dS6).s_).b_).q_.ad) ((((([⟨x,near⟩]).getD g.k dS6).s_).b_).q_.n) ((((([⟨x,near⟩]).getD g.k dS6).s_).b_).q_.c))])] (ak (okc (hs9.cell 0 rfl (by kernel_rfl)) ok0) ak0) ?_
    rcases Bool.eq_false_or_eq_true (decide ((((((([⟨x,near⟩]).getD g.k dS6).s_).b_).q_.n:Nat):Int)>20)) with h10|h10
    ·refine Zqs 29 true h10 ?_
     have h10':(((((([⟨x,near⟩]).getD g.k dS6).s_).b_).q_.n:Nat):Int)>20:=of_decide_eq_true h10
     refine Zr 6 19 [] ?_
     refine Zd ?_
     refine GoQ.pick [48,7,0,5,6] (S':=[(48,.bool true),(7,zP b5 0),(0,zL bb bo 1 c),(5,.slice g.ad g.l.length g.c),(6,.int .i64 (g.k:Nat))]) (by kernel_rfl) ?_
     exact GoQ.meet1 () (by first|rfl|(simp only [h10,Bool.not_true,Bool.not_false,Bool.true_or,Bool.false_or,Bool.true_and,Bool.false_and,Bool.or_true,Bool.or_false,Bool.and_true,Bool.and_false];done)|(simp [h10];done)) hs9
    ·refine Zqs 29 false h10 ?_
     have h10':¬ ((((((([⟨x,near⟩]).getD g.k dS6).s_).b_).q_.n:Nat):Int)>20):=of_decide_eq_false h10
     refine Zp 6 7 [(8,.gen [.slice mad ms.length mc])] [(8,[.cell ⟨b5,101,none⟩ (.slice mad ms.length mc)])] (ak (okc (hs9.cell 0 rfl (by kernel_rfl)) ok0) ak0) ?_
     rcases Bool.eq_false_or_eq_true (decide (((ms.length:Nat):Int)>20)) with h11|h11
     ·refine Zqs 36 true h11 ?_
      have h11':((ms.length:Nat):Int)>20:=of_decide_eq_true h11
      refine Zr 13 12 [] ?_
      refine Zd ?_
      refine GoQ.pick [48,7,0,5,6] (S':=[(48,.bool true),(7,zP b5 0),(0,zL bb bo 1 c),(5,.slice g.ad g.l.length g.c),(6,.int .i64 (g.k:Nat))]) (by kernel_rfl) ?_
      exact GoQ.meet1 () (by first|rfl|(simp only [h10,h11,Bool.not_true,Bool.not_false,Bool.true_or,Bool.false_or,Bool.true_and,Bool.false_and,Bool.or_true,Bool.or_false,Bool.and_true,Bool.and_false];done)|(simp [h10,h11];done)) hs9
     ·refine Zqs 36 false h11 ?_
      have h11':¬ (((ms.length:Nat):Int)>20):=of_decide_eq_false h11
      refine Zp 13 6 [(14,.gen [.slice (((([⟨x,near⟩]).getD g.k dS6).s_).pi_.ad) (((([⟨x,near⟩]).getD g.k dS6).s_).pi_.n) (((([⟨x,near⟩]).getD g.k dS6).s_).pi_.c)])] [(14,[.cell ⟨b5,106,none⟩ (.slice (((([⟨x,near⟩]).getD g.k dS6).s_).pi_.ad) (((([⟨x,near⟩]).getD g.k dS6).s_).pi_.n) (((([⟨x,near⟩]).getD g.k dS6).s_).pi_.c))])] (ak (okc (hs9.cell 0 rfl (by kernel_rfl)) ok0) ak0) ?_
      rcases Bool.eq_false_or_eq_true (decide (((((([⟨x,near⟩]).getD g.k dS6).s_).pi_.n:Nat):Int)>60)) with h12|h12
      ·refine Zqs 42 true h12 ?_
       have h12':((((([⟨x,near⟩]).getD g.k dS6).s_).pi_.n:Nat):Int)>60:=of_decide_eq_true h12
       refine Zr 19 6 [] ?_
       refine Zd ?_
       refine GoQ.pick [48,7,0,5,6] (S':=[(48,.bool true),(7,zP b5 0),(0,zL bb bo 1 c),(5,.slice g.ad g.l.length g.c),(6,.int .i64 (g.k:Nat))]) (by kernel_rfl) ?_
       exact GoQ.meet1 () (by first|rfl|(simp only [h10,h11,h12,Bool.not_true,Bool.not_false,Bool.true_or,Bool.false_or,Bool.true_and,Bool.false_and,Bool.or_true,Bool.or_false,Bool.and_true,Bool.and_false];done)|(simp [h10,h11,h12];done)) hs9
      ·refine Zqs 42 false h12 ?_
       have h12':¬ (((((([⟨x,near⟩]).getD g.k dS6).s_).pi_.n:Nat):Int)>60):=of_decide_eq_false h12
       refine Zp 19 6 [(21,.gen [.string ((((([⟨x,near⟩]).getD g.k dS6).s_).re_).v_)])] [(21,[.cell ⟨b5,104,none⟩ (.string ((((([⟨x,near⟩]).getD g.k dS6).s_).re_).v_))])] (ak (okc (hs9.cell 0 rfl (by kernel_rfl)) ok0) ak0) ?_
       refine Zd ?_
       refine GoQ.pick [48,7,0,5,6] (S':=[(48,.bool (decide (((((((([⟨x,near⟩]).getD g.k dS6).s_).re_).v_).size:Nat):Int)>1000))),(7,zP b5 0),(0,zL bb bo 1 c),(5,.slice g.ad g.l.length g.c),(6,.int .i64 (g.k:Nat))]) (by kernel_rfl) ?_
       exact GoQ.meet1 () (by first|rfl|(simp only [h10,h11,h12,Bool.not_true,Bool.not_false,Bool.true_or,Bool.false_or,Bool.true_and,Bool.false_and,Bool.or_true,Bool.or_false,Bool.and_true,Bool.and_false];done)|(simp [h10,h11,h12];done)) hs9
   intro _ w13 hs14
   refine Zt ?_
   refine Zqc (t:=(((decide ((((((([⟨x,near⟩]).getD g.k dS6).s_).b_).q_.n:Nat):Int)>20)) || (decide (((ms.length:Nat):Int)>20))) || (decide (((((([⟨x,near⟩]).getD g.k dS6).s_).pi_.n:Nat):Int)>60))) || (decide (((((((([⟨x,near⟩]).getD g.k dS6).s_).re_).v_).size:Nat):Int)>1000))) (fun h15=>?_) (fun h15=>?_)
   ·refine Zs ?_
    refine Zqt (.rd 0 .done) ?_
    refine Zr 0 1 [] ?_
    refine Zd (Zt (Ze (Zy (Zl (Zy (GoQ.skipLR (Zl (Zy ?_))))))))
    refine Zq1 (v:=.bool false) ?_
    exact⟨_,rfl,hs14.drop 2⟩
   ·have h15a:(((decide ((((((([⟨x,near⟩]).getD g.k dS6).s_).b_).q_.n:Nat):Int)>20)) || (decide (((ms.length:Nat):Int)>20))) || (decide (((((([⟨x,near⟩]).getD g.k dS6).s_).pi_.n:Nat):Int)>60)))=false:=(Bool.or_eq_false_iff.1 h15).1
    have h15aa:((decide ((((((([⟨x,near⟩]).getD g.k dS6).s_).b_).q_.n:Nat):Int)>20)) || (decide (((ms.length:Nat):Int)>20)))=false:=(Bool.or_eq_false_iff.1 h15a).1
    have h15aaa:(decide ((((((([⟨x,near⟩]).getD g.k dS6).s_).b_).q_.n:Nat):Int)>20))=false:=(Bool.or_eq_false_iff.1 h15aa).1
    have h15aaa':¬ ((((((([⟨x,near⟩]).getD g.k dS6).s_).b_).q_.n:Nat):Int)>20):=of_decide_eq_false h15aaa
    have h15aab:(decide (((ms.length:Nat):Int)>20))=false:=(Bool.or_eq_false_iff.1 h15aa).2
    have h15aab':¬ (((ms.length:Nat):Int)>20):=of_decide_eq_false h15aab
    have h15ab:(decide (((((([⟨x,near⟩]).getD g.k dS6).s_).pi_.n:Nat):Int)>60))=false:=(Bool.or_eq_false_iff.1 h15a).2
    have h15ab':¬ (((((([⟨x,near⟩]).getD g.k dS6).s_).pi_.n:Nat):Int)>60):=of_decide_eq_false h15ab
    have h15b:(decide (((((((([⟨x,near⟩]).getD g.k dS6).s_).re_).v_).size:Nat):Int)>1000))=false:=(Bool.or_eq_false_iff.1 h15).2
    have h15b':¬ (((((((([⟨x,near⟩]).getD g.k dS6).s_).re_).v_).size:Nat):Int)>1000):=of_decide_eq_false h15b
    refine Zk (Zt (Zs (Zs ?_)))
    refine Zqt (.rd 0 .done) ?_
    refine Zr 0 1 [] ?_
    refine Zd (Zt (Zb ?_))
    refine GoC.loop (T:=Nat) (fun j=>[(0,zL bb bo 1 c),(5,.slice g.ad g.l.length g.c),(6,.int .i64 (g.k:Nat)),(7,zP b5 0),(8,.int .i64 (j:Nat))]) (fun j w=>(j≤ms.length)∧St w0 ((Cel b5 (ApV.cells mad ms.length mc ((([⟨x,near⟩]).getD g.k dS6).s_)) 41)::(Sl g.ad g.c 24 6 OpV.cells g.l)::L) w) (fun j=>ms.length-j) (0) [0,5,6,7,8] (by kernel_rfl) ⟨Nat.zero_le _,hs14⟩ ?_
    rintro j w16 ⟨hj,hs17⟩
    refine Zn [(0,zL bb bo 1 c),(5,.slice g.ad g.l.length g.c),(6,.int .i64 (g.k:Nat)),(7,zP b5 0),(8,.int .i64 (j:Nat))] ?_
    refine Zs (Zs ?_)
    refine Zqt (.rd 0 (.rd 1 (.rd 2 (.rd 3 (.rd 4 (.rd 5 .done)))))) ?_
    refine Zp 0 6 [(3,.gen [.slice mad ms.length mc])] [(3,[.cell ⟨b5,101,none⟩ (.slice mad ms.length mc)])] (ak (okc (hs17.cell 0 rfl (by kernel_rfl)) ok0) ak0) ?_
    refine Zd (Zt ?_)
    refine Zqc (t:=decide (((j:Nat):Int)<(ms.length:Nat))) (fun h18=>?_) (fun h18=>?_)
    ·have h18':((j:Nat):Int)<(ms.length:Nat):=of_decide_eq_true h18
     have hjl:j<ms.length:=by omega
     obtain⟨ab,ao,rfl⟩:=RowsAt.isSome (hm _ (hs17.drop 2)) (by omega)
     refine Zk (Zt (Zs (Zb (Zs ?_))))
     refine Zqt (.rd 0 (.rd 1 (.rd 2 (.rd 3 (.rd 4 (.rd 5 (.rd 6 (.rd 7 (.rd 8 (.rd 9 .done)))))))))) ?_
     refine Zp 0 10 [(2,.gen [zL ab ao ms.length mc]),(4,.as_ (zP ab (ao+(j*121))) .at_),(7,.gen [.slice (((ms.getD j pMs).b_).q_.ad) (((ms.getD j pMs).b_).q_.n) (((ms.getD j pMs).b_).q_.c)])] [(2,[.cell ⟨b5,101,none⟩ (zL ab ao ms.length mc)]),(4,[.prop (0≤((j:Nat):Int)∧((j:Nat):Int)<((ms.length:Nat):Int)),.prop (Value.pointer (some (Addr.add ⟨ab,ao,none⟩ (Int.toNat (j:Nat)*121)))=Value.pointer (some ⟨ab,ao+(j*121),none⟩))]),(7,[.cell ⟨ab,ao+(j*121)+13+43,none⟩ (.slice (((ms.getD j pMs).b_).q_.ad) (((ms.getD j pMs).b_).q_.n) (((ms.getD j pMs).b_).q_.c))])] (ak (okc (hs17.cell 0 rfl (by kernel_rfl)) ok0) (ak (okp (by omega) (okp (ptrAdd _ _ _) ok0)) (ak (okc (RowsAt.at0 (hm _ (hs17.drop 2)) (k:=j) (by first|omega|(simp only [List.length_set];omega)|(simp only [List.length_set,List.length_append,List.length_cons,List.length_nil];omega)) (j:=56) (by decide) (by kernel_rfl)) ok0) ak0))) ?_
     refine Zd (Zt ?_)
     refine Zqc (t:=decide (((((ms.getD j pMs).b_).q_.n:Nat):Int)>20)) (fun h19=>?_) (fun h19=>?_)
     ·have h19':((((ms.getD j pMs).b_).q_.n:Nat):Int)>20:=of_decide_eq_true h19
      refine Zs ?_
      refine Zqt (.rd 0 .done) ?_
      refine Zr 0 1 [] ?_
      refine Zd (Zt (Ze (Zl (Zy (GoQ.skipLR (Zl (Zy (Zl (Zy (GoQ.skipLR (Zl (Zy ?_))))))))))))
      refine Zq1 (v:=.bool false) ?_
      exact⟨_,rfl,hs17.drop 2⟩
     ·have h19':¬ (((((ms.getD j pMs).b_).q_.n:Nat):Int)>20):=of_decide_eq_false h19
      refine Zk (Zm (Zt ?_))
      refine Zqt (.rd 0 (.rd 1 (.rd 2 .done))) ?_
      refine Zp 0 3 [(1,.as_ (.int .i64 ((j:Nat)+1)) (.gen []))] [(1,[.prop (Value.int .i64 (IntKind.i64.wrap ((j:Nat)+1))=Value.int .i64 ((j:Nat)+1))])] (ak (okp (i64ok (by omega) (by omega)) ok0) ak0) ?_
      refine Zd ?_
      exact GoQ.back (j+1) [0,5,6,7,8] (by kernel_rfl) (by omega) ⟨(by omega),hs17⟩
    ·have h18':¬ (((j:Nat):Int)<(ms.length:Nat)):=of_decide_eq_false h18
     refine Zx (GoQ.skipC (GoQ.skipL (GoQ.hit (Zt ?_))))
     refine Zqt (.rd 0 (.rd 1 (.rd 2 (.rd 3 (.rd 4 (.rd 5 (.rd 6 (.ef 7 (.ef 8 (.rd 9 .done)))))))))) ?_
     refine Zp 0 7 [(2,.agg (OpV.cells (((([⟨x,near⟩]).getD g.k dS6).s_).op_))),(6,.agg (OpV.cells (((((([⟨x,near⟩]).getD g.k dS6).s_).b_).r_).op_)))] [(2,[.prop (Array.size (OpV.cells (((([⟨x,near⟩]).getD g.k dS6).s_).op_))=6),.cells ⟨b5,6,none⟩ (OpV.cells (((([⟨x,near⟩]).getD g.k dS6).s_).op_))]),(6,[.prop (Array.size (OpV.cells (((((([⟨x,near⟩]).getD g.k dS6).s_).b_).r_).op_))=6),.cells ⟨b5,17,none⟩ (OpV.cells (((((([⟨x,near⟩]).getD g.k dS6).s_).b_).r_).op_))])] (ak (okp (by kernel_rfl) (oka (hs17.cells 0 6 rfl (by kernel_rfl)) ok0)) (ak (okp (by kernel_rfl) (oka (hs17.cells 0 17 rfl (by kernel_rfl)) ok0)) ak0)) ?_
     refine GoR.sliceLit rfl (by kernel_rfl) (t:=101) (e:=24) (n:=2) (ps:=[(0,.agg (OpV.cells (((([⟨x,near⟩]).getD g.k dS6).s_).op_))),(1,.agg (OpV.cells (((((([⟨x,near⟩]).getD g.k dS6).s_).b_).r_).op_)))]) (by kernel_rfl) (by kernel_rfl) (ti:=Tryz.t24) (z:=.agg #[.int .u8 0,.string (⟨#[]⟩:ByteArray),.string (⟨#[]⟩:ByteArray),.string (⟨#[]⟩:ByteArray),.string (⟨#[]⟩:ByteArray),.int .u64 0]) (by kernel_rfl) (by kernel_rfl) (by decide) (by decide) (cs:=#[.int .u8 ((((([⟨x,near⟩]).getD g.k dS6).s_).op_).kd_),.string ((((([⟨x,near⟩]).getD g.k dS6).s_).op_).y_),.string ((((([⟨x,near⟩]).getD g.k dS6).s_).op_).v_),.string ((((([⟨x,near⟩]).getD g.k dS6).s_).op_).o_),.string ((((([⟨x,near⟩]).getD g.k dS6).s_).op_).t_),.int .u64 ((((([⟨x,near⟩]).getD g.k dS6).s_).op_).am_),.int .u8 ((((((([⟨x,near⟩]).getD g.k dS6).s_).b_).r_).op_).kd_),.string ((((((([⟨x,near⟩]).getD g.k dS6).s_).b_).r_).op_).y_),.string ((((((([⟨x,near⟩]).getD g.k dS6).s_).b_).r_).op_).v_),.string ((((((([⟨x,near⟩]).getD g.k dS6).s_).b_).r_).op_).o_),.string ((((((([⟨x,near⟩]).getD g.k dS6).s_).b_).r_).op_).t_),.int .u64 ((((((([⟨x,near⟩]).getD g.k dS6).s_).b_).r_).op_).am_)]) (by kernel_rfl) hs17 ?_
     intro b20 w21 hs22 hz23
     have hs24:St w0 ((Sl (some ⟨b20,0,none⟩) 2 24 6 OpV.cells ([((((([⟨x,near⟩]).getD g.k dS6).s_).op_):OpV),((((((([⟨x,near⟩]).getD g.k dS6).s_).b_).r_).op_):OpV)]))::(Cel b5 (ApV.cells mad ms.length mc ((([⟨x,near⟩]).getD g.k dS6).s_)) 41)::(Sl g.ad g.c 24 6 OpV.cells g.l)::L) w21:=St.slOf (l:=[((((([⟨x,near⟩]).getD g.k dS6).s_).op_):OpV),((((((([⟨x,near⟩]).getD g.k dS6).s_).b_).r_).op_):OpV)]) (f:=OpV.cells) hs22 hz23 (opF).size (by simp only [List.length_cons,List.length_nil,maxLen];omega) (by kernel_rfl)
     refine⟨Zqo,?_⟩
     have hs27:St w0 ((Sl g.ad g.c 24 6 OpV.cells g.l)::(Sl (some ⟨b20,0,none⟩) 2 24 6 OpV.cells ([((((([⟨x,near⟩]).getD g.k dS6).s_).op_):OpV),((((((([⟨x,near⟩]).getD g.k dS6).s_).b_).r_).op_):OpV)]))::(Cel b5 (ApV.cells mad ms.length mc ((([⟨x,near⟩]).getD g.k dS6).s_)) 41)::L) w21:=(hs24.pull 2 rfl)
     refine GoR.append rfl (by kernel_rfl) opsOK opF (ad:=g.ad) (c:=g.c) (xs:=g.l) (ys:=[((((([⟨x,near⟩]).getD g.k dS6).s_).op_):OpV),((((((([⟨x,near⟩]).getD g.k dS6).s_).b_).r_).op_):OpV)]) (adx:=some ⟨b20,0,none⟩) (cx:=2) pOp (by kernel_rfl) hs27 (hs27.rows 1 rfl (opF).size pOp) (fun h=>nomatch h) (by simp only [List.length_cons,List.length_nil];omega) (by simp only [List.length_cons,List.length_nil];omega) ?_
     intro ad28 c29 w25 hs26
     refine⟨Zqo,?_⟩
     refine Zr 9 1 [] ?_
     refine Zd (Zm (Zt ?_))
     refine Zqt (.rd 0 (.rd 1 (.rd 2 .done))) ?_
     refine Zp 0 3 [(1,.as_ (.int .i64 ((g.k:Nat)+1)) (.gen []))] [(1,[.prop (Value.int .i64 (IntKind.i64.wrap ((g.k:Nat)+1))=Value.int .i64 ((g.k:Nat)+1))])] (ak (okp (i64ok (by omega) (by omega)) ok0) ak0) ?_
     refine Zd ?_
     have hs30:St w0 ((Sl (some ⟨b20,0,none⟩) 2 24 6 OpV.cells ([((((([⟨x,near⟩]).getD g.k dS6).s_).op_):OpV),((((((([⟨x,near⟩]).getD g.k dS6).s_).b_).r_).op_):OpV)]))::(Cel b5 (ApV.cells mad ms.length mc ((([⟨x,near⟩]).getD g.k dS6).s_)) 41)::(Sl ad28 c29 24 6 OpV.cells (g.l++([((((([⟨x,near⟩]).getD g.k dS6).s_).op_):OpV),((((((([⟨x,near⟩]).getD g.k dS6).s_).b_).r_).op_):OpV)])))::L) w25:=(((hs26.pull 0 rfl).pull 2 rfl).pull 2 rfl)
     have hs31:St w0 ((Sl ad28 c29 24 6 OpV.cells (g.l++([((((([⟨x,near⟩]).getD g.k dS6).s_).op_):OpV),((((((([⟨x,near⟩]).getD g.k dS6).s_).b_).r_).op_):OpV)])))::L) w25:=hs30.drop 2
     exact GoQ.back (⟨g.k+1,g.l++([((((([⟨x,near⟩]).getD g.k dS6).s_).op_):OpV),((((((([⟨x,near⟩]).getD g.k dS6).s_).b_).r_).op_):OpV)]),ad28,c29⟩) [0,5,6] (by kernel_rfl) (by simp only;omega) ⟨(by
      refine⟨by simp only;omega,by simp only [List.length_append,List.length_cons,List.length_nil];omega,?_⟩
      intro q hq
      simp only [List.mem_append,List.mem_cons,List.not_mem_nil,or_false] at hq
      rcases hq with hq|rfl|rfl
      ·exact hp.2.2 q hq
      ·rw [he];exact hsm
      ·rw [he];exact hsm2),hs31⟩
  ·have h4':¬ (((g.k:Nat):Int)<(1:Nat)):=of_decide_eq_false h4
   have hol:g.l.length=2*g.k:=hp.2.1
   refine Zx (GoQ.skipC (GoQ.skipL (GoQ.hit (Zt (Zs ?_)))))
   refine Zqt (.rd 0 (.rd 1 (.rd 2 (.rd 3 (.rd 4 (.ef 5 (.rd 6 (.rd 7 (.rd 8 (.rd 9 (.rd 10 (.rd 11 (.rd 12 (.rd 13 (.ef 14 (.rd 15 (.rd 16 (.rd 17 (.rd 18 (.ef 19 (.rd 20 (.rd 21 (.rd 22 .done))))))))))))))))))))))) ?_
   refine Zr 0 4 [] ?_
   rcases Bool.eq_false_or_eq_true (decide (((g.l.length:Nat):Int)≤150)) with h32|h32
   ·refine Zqs 79 true h32 ?_
    have h32':((g.l.length:Nat):Int)≤150:=of_decide_eq_true h32
    refine Zr 4 1 [] ?_
    refine Zqa (f:=41) (args:=#[.slice g.ad g.l.length g.c]) Tryz.call41 (few_spec g.l hp.2.2 (by rw [hol];omega) (fun w h=>h.rows 0 rfl opF.size _) hs3) ?_
    rintro v34 w35 ⟨rfl,hs33⟩
    refine⟨Zqo,?_⟩
    refine Zr 6 2 [] ?_
    rcases Bool.eq_false_or_eq_true (few g.l) with h36|h36
    ·refine Zqs 83 true h36 ?_
     refine Zr 8 6 [] ?_
     refine GoR.skip rfl (by kernel_rfl) Zqo ?_
     refine Zr 15 4 [] ?_
     refine GoR.skip rfl (by kernel_rfl) Zqo ?_
     refine Zr 20 3 [] ?_
     refine Zd (Zt (Ze ?_))
     refine Zq1 (v:=.bool true) ?_
     exact⟨_,rfl,hs33.drop 1⟩
    ·refine Zqs 83 false h36 ?_
     refine Zr 8 4 [] ?_
     rcases Bool.eq_false_or_eq_true (decide (((g.l.length:Nat):Int)>150)) with h37|h37
     ·refine Zqs 87 true h37 ?_
      have h37':((g.l.length:Nat):Int)>150:=of_decide_eq_true h37
      exfalso;omega
     ·refine Zqs 87 false h37 ?_
      have h37':¬ (((g.l.length:Nat):Int)>150):=of_decide_eq_false h37
      refine Zr 12 2 [] ?_
      refine GoR.skip rfl (by kernel_rfl) Zqo ?_
      refine Zr 15 4 [] ?_
      refine GoR.skip rfl (by kernel_rfl) Zqo ?_
      refine Zr 20 3 [] ?_
      refine Zd (Zt (Ze ?_))
      refine Zq1 (v:=.bool false) ?_
      exact⟨_,rfl,hs33.drop 1⟩
   ·refine Zqs 79 false h32 ?_
    have h32':¬ (((g.l.length:Nat):Int)≤150):=of_decide_eq_false h32
    exfalso;omega
set_option maxHeartbeats 4000000 in
theorem fewSteps_spec {w0 w:World}{L:List Asn}{mad:Option Addr}{mc:Nat}(x:ApV) (ms:List MsV) (hz0:x.op_.y_.size≤140737488351232) (hz1:x.op_.v_.size≤140737488351232) (hz2:x.op_.o_.size≤140737488351232) (hz3:x.op_.t_.size≤140737488351232) (hz4:x.b_.r_.op_.y_.size≤140737488351232) (hz5:x.b_.r_.op_.v_.size≤140737488351232) (hz6:x.b_.r_.op_.o_.size≤140737488351232) (hz7:x.b_.r_.op_.t_.size≤140737488351232) (hm:∀ w,St w0 L w→RowsAt w mad ms.length 121 (fun k=>MsV.cells (ms.getD k pMs))) (hs:St w0 L w):Calls Tryz.prog 4 #[.agg (ApV.cells mad ms.length mc x)] w (Ret fun rv w'=>∃ b:Bool,rv=.bool b∧St w0 L w'):=by
 refine enter (args:=[.agg (ApV.cells mad ms.length mc x)]) Tryz.func4 rfl Tryz.ntmps4 (Nat.le_of_ble_eq_true (by kernel_rfl)) ?_
 refine Zn [(0,.agg (ApV.cells mad ms.length mc x))] ?_
 refine Zs ?_
 refine Zqt (.ef 0 (.rd 1 .done)) ?_
 refine GoR.box rfl rfl (by kernel_rfl) (v:=.agg (ApV.cells mad ms.length mc x)) (by kernel_rfl) hs (cs:=ApV.cells mad ms.length mc x) (by kernel_rfl) ?_
 intro b1 w2 hs3
 refine⟨Zqo,?_⟩
 refine Zr 1 1 [] ?_
 refine Zd (Zt (Zs ?_))
 refine Zqt (.rd 0 (.rd 1 (.ef 2 (.ef 3 (.rd 4 (.rd 5 (.rd 6 (.rd 7 (.rd 8 (.rd 9 (.rd 10 (.rd 11 (.rd 12 (.rd 13 (.rd 14 (.rd 15 (.rd 16 (.rd 17 (.rd 18 (.rd 19 (.rd 20 (.rd 21 (.rd 22 (.rd 23 (.rd 24 (.rd 25 (.rd 26 .done))))))))))))))))))))))))))) ?_
 refine Zp 0 2 [(0,.agg (ApV.cells mad ms.length mc x))] [(0,[.prop (Array.size (ApV.cells mad ms.length mc x)=107),.cells ⟨b1,0,none⟩ (ApV.cells mad ms.length mc x)])] (ak (okp (by kernel_rfl) (oka (hs3.cells 0 0 rfl (by kernel_rfl)) ok0)) ak0) ?_
 refine GoR.sliceLit rfl (by kernel_rfl) (t:=53) (e:=52) (n:=1) (ps:=[(0,.agg #[.int .u8 x.do_,.int .i64 x.c_,.int .i64 x.w_,.int .i64 x.j_,.int .i64 x.k_,.int .i64 x.n_,.int .u8 x.op_.kd_,.string x.op_.y_,.string x.op_.v_,.string x.op_.o_,.string x.op_.t_,.int .u64 x.op_.am_,.int .u8 x.b_.kd_,.int .u64 x.b_.vw_,.int .u64 x.b_.k_,.int .i64 x.b_.r_.c_,.int .u64 x.b_.r_.tm_,.int .u8 x.b_.r_.op_.kd_,.string x.b_.r_.op_.y_,.string x.b_.r_.op_.v_,.string x.b_.r_.op_.o_,.string x.b_.r_.op_.t_,.int .u64 x.b_.r_.op_.am_,.int .u8 (x.b_.r_.g_[0]),.int .u8 (x.b_.r_.g_[1]),.int .u8 (x.b_.r_.g_[2]),.int .u8 (x.b_.r_.g_[3]),.int .u8 (x.b_.r_.g_[4]),.int .u8 (x.b_.r_.g_[5]),.int .u8 (x.b_.r_.g_[6]),.int .u8 (x.b_.r_.g_[7]),.int .u8 (x.b_.r_.g_[8]),.int .u8 (x.b_.r_.g_[9]),.int .u8 (x.b_.r_.g_[10]),.int .u8 (x.b_.r_.g_[11]),.int .u8 (x.b_.r_.g_[12]),.int .u8 (x.b_.r_.g_[13]),.int .u8 (x.b_.r_.g_[14]),.int .u8 (x.b_.r_.g_[15]),.int .u8 (x.b_.r_.g_[16]),.int .u8 (x.b_.r_.g_[17]),.int .u8 (x.b_.r_.g_[18]),.int .u8 (x.b_.r_.g_[19]),.int .u8 (x.b_.r_.g_[20]),.int .u8 (x.b_.r_.g_[21]),.int .u8 (x.b_.r_.g_[22]),.int .u8 (x.b_.r_.g_[23]),.int .u8 (x.b_.r_.g_[24]),.int .u8 (x.b_.r_.g_[25]),.int .u8 (x.b_.r_.g_[26]),.int .u8 (x.b_.r_.g_[27]),.int .u8 (x.b_.r_.g_[28]),.int .u8 (x.b_.r_.g_[29]),.int .u8 (x.b_.r_.g_[30]),.int .u8 (x.b_.r_.g_[31]),.slice x.b_.q_.ad x.b_.q_.n x.b_.q_.c,.int .u8 (x.b_.d_[0]),.int .u8 (x.b_.d_[1]),.int .u8 (x.b_.d_[2]),.int .u8 (x.b_.d_[3]),.int .u8 (x.b_.d_[4]),.int .u8 (x.b_.d_[5]),.int .u8 (x.b_.d_[6]),.int .u8 (x.b_.d_[7]),.int .u8 (x.b_.d_[8]),.int .u8 (x.b_.d_[9]),.int .u8 (x.b_.d_[10]),.int .u8 (x.b_.d_[11]),.int .u8 (x.b_.d_[12]),.int .u8 (x.b_.d_[13]),.int .u8 (x.b_.d_[14]),.int .u8 (x.b_.d_[15]),.int .u8 (x.b_.d_[16]),.int .u8 (x.b_.d_[17]),.int .u8 (x.b_.d_[18]),.int .u8 (x.b_.d_[19]),.int .u8 (x.b_.d_[20]),.int .u8 (x.b_.d_[21]),.int .u8 (x.b_.d_[22]),.int .u8 (x.b_.d_[23]),.int .u8 (x.b_.d_[24]),.int .u8 (x.b_.d_[25]),.int .u8 (x.b_.d_[26]),.int .u8 (x.b_.d_[27]),.int .u8 (x.b_.d_[28]),.int .u8 (x.b_.d_[29]),.int .u8 (x.b_.d_[30]),.int .u8 (x.b_.d_[31]),.int .i64 x.p_.f_,.int .i64 x.p_.t_,.int .u64 (x.p_.kn_[0]),.int .u64 (x.p_.kn_[1]),.int .u64 (x.p_.kn_[2]),.int .u64 (x.p_.kn_[3]),.int .u64 (x.p_.kn_[4]),.int .u64 (x.p_.kn_[5]),.int .u64 (x.p_.kn_[6]),.int .u64 (x.p_.kn_[7]),.int .u64 (x.p_.kn_[8]),.int .u64 (x.p_.kn_[9]),.int .u64 (x.p_.kn_[10]),.slice mad ms.length mc,.int .u64 x.tm_,.int .i64 x.re_.er_,.string x.re_.v_,.int .u64 x.at_,.slice x.pi_.ad x.pi_.n x.pi_.c,.bool false])]) (by kernel_rfl) (by kernel_rfl) (ti:=Tryz.t52) (z:=.agg #[.int .u8 0,.int .i64 0,.int .i64 0,.int .i64 0,.int .i64 0,.int .i64 0,.int .u8 0,.string (⟨#[]⟩:ByteArray),.string (⟨#[]⟩:ByteArray),.string (⟨#[]⟩:ByteArray),.string (⟨#[]⟩:ByteArray),.int .u64 0,.int .u8 0,.int .u64 0,.int .u64 0,.int .i64 0,.int .u64 0,.int .u8 0,.string (⟨#[]⟩:ByteArray),.string (⟨#[]⟩:ByteArray),.string (⟨#[]⟩:ByteArray),.string (⟨#[]⟩:ByteArray),.int .u64 0,.int .u8 0,.int .u8 0,.int .u8 0,.int .u8 0,.int .u8 0,.int .u8 0,.int .u8 0,.int .u8 0,.int .u8 0,.int .u8 0,.int .u8 0,.int .u8 0,.int .u8 0,.int .u8 0,.int .u8 0,.int .u8 0,.int .u8 0,.int .u8 0,.int .u8 0,.int .u8 0,.int .u8 0,.int .u8 0,.int .u8 0,.int .u8 0,.int .u8 0,.int .u8 0,.int .u8 0,.int .u8 0,.int .u8 0,.int .u8 0,.int .u8 0,.int .u8 0,.slice none 0 0,.int .u8 0,.int .u8 0,.int .u8 0,.int .u8 0,.int .u8 0,.int .u8 0,.int .u8 0,.int .u8 0,.int .u8 0,.int .u8 0,.int .u8 0,.int .u8 0,.int .u8 0,.int .u8 0,.int .u8 0,.int .u8 0,.int .u8 0,.int .u8 0,.int .u8 0,.int .u8 0,.int .u8 0,.int .u8 0,.int .u8 0,.int .u8 0,.int .u8 0,.int .u8 0,.int .u8 0,.int .u8 0,.int .u8 0,.int .u8 0,.int .u8 0,.int .u8 0,.int .i64 0,.int .i64 0,.int .u64 0,.int .u64 0,.int .u64 0,.int .u64 0,.int .u64 0,.int .u64 0,.int .u64 0,.int .u64 0,.int .u64 0,.int .u64 0,.int .u64 0,.slice none 0 0,.int .u64 0,.int .i64 0,.string (⟨#[]⟩:ByteArray),.int .u64 0,.slice none 0 0,.bool false]) (by kernel_rfl) (by kernel_rfl) (by decide) (by decide) (cs:=#[.int .u8 x.do_,.int .i64 x.c_,.int .i64 x.w_,.int .i64 x.j_,.int .i64 x.k_,.int .i64 x.n_,.int .u8 x.op_.kd_,.string x.op_.y_,.string x.op_.v_,.string x.op_.o_,.string x.op_.t_,.int .u64 x.op_.am_,.int .u8 x.b_.kd_,.int .u64 x.b_.vw_,.int .u64 x.b_.k_,.int .i64 x.b_.r_.c_,.int .u64 x.b_.r_.tm_,.int .u8 x.b_.r_.op_.kd_,.string x.b_.r_.op_.y_,.string x.b_.r_.op_.v_,.string x.b_.r_.op_.o_,.string x.b_.r_.op_.t_,.int .u64 x.b_.r_.op_.am_,.int .u8 (x.b_.r_.g_[0]),.int .u8 (x.b_.r_.g_[1]),.int .u8 (x.b_.r_.g_[2]),.int .u8 (x.b_.r_.g_[3]),.int .u8 (x.b_.r_.g_[4]),.int .u8 (x.b_.r_.g_[5]),.int .u8 (x.b_.r_.g_[6]),.int .u8 (x.b_.r_.g_[7]),.int .u8 (x.b_.r_.g_[8]),.int .u8 (x.b_.r_.g_[9]),.int .u8 (x.b_.r_.g_[10]),.int .u8 (x.b_.r_.g_[11]),.int .u8 (x.b_.r_.g_[12]),.int .u8 (x.b_.r_.g_[13]),.int .u8 (x.b_.r_.g_[14]),.int .u8 (x.b_.r_.g_[15]),.int .u8 (x.b_.r_.g_[16]),.int .u8 (x.b_.r_.g_[17]),.int .u8 (x.b_.r_.g_[18]),.int .u8 (x.b_.r_.g_[19]),.int .u8 (x.b_.r_.g_[20]),.int .u8 (x.b_.r_.g_[21]),.int .u8 (x.b_.r_.g_[22]),.int .u8 (x.b_.r_.g_[23]),.int .u8 (x.b_.r_.g_[24]),.int .u8 (x.b_.r_.g_[25]),.int .u8 (x.b_.r_.g_[26]),.int .u8 (x.b_.r_.g_[27]),.int .u8 (x.b_.r_.g_[28]),.int .u8 (x.b_.r_.g_[29]),.int .u8 (x.b_.r_.g_[30]),.int .u8 (x.b_.r_.g_[31]),.slice x.b_.q_.ad x.b_.q_.n x.b_.q_.c,.int .u8 (x.b_.d_[0]),.int .u8 (x.b_.d_[1]),.int .u8 (x.b_.d_[2]),.int .u8 (x.b_.d_[3]),.int .u8 (x.b_.d_[4]),.int .u8 (x.b_.d_[5]),.int .u8 (x.b_.d_[6]),.int .u8 (x.b_.d_[7]),.int .u8 (x.b_.d_[8]),.int .u8 (x.b_.d_[9]),.int .u8 (x.b_.d_[10]),.int .u8 (x.b_.d_[11]),.int .u8 (x.b_.d_[12]),.int .u8 (x.b_.d_[13]),.int .u8 (x.b_.d_[14]),.int .u8 (x.b_.d_[15]),.int .u8 (x.b_.d_[16]),.int .u8 (x.b_.d_[17]),.int .u8 (x.b_.d_[18]),.int .u8 (x.b_.d_[19]),.int .u8 (x.b_.d_[20]),.int .u8 (x.b_.d_[21]),.int .u8 (x.b_.d_[22]),.int .u8 (x.b_.d_[23]),.int .u8 (x.b_.d_[24]),.int .u8 (x.b_.d_[25]),.int .u8 (x.b_.d_[26]),.int .u8 (x.b_.d_[27]),.int .u8 (x.b_.d_[28]),.int .u8 (x.b_.d_[29]),.int .u8 (x.b_.d_[30]),.int .u8 (x.b_.d_[31]),.int .i64 x.p_.f_,.int .i64 x.p_.t_,.int .u64 (x.p_.kn_[0]),.int .u64 (x.p_.kn_[1]),.int .u64 (x.p_.kn_[2]),.int .u64 (x.p_.kn_[3]),.int .u64 (x.p_.kn_[4]),.int .u64 (x.p_.kn_[5]),.int .u64 (x.p_.kn_[6]),.int .u64 (x.p_.kn_[7]),.int .u64 (x.p_.kn_[8]),.int .u64 (x.p_.kn_[9]),.int .u64 (x.p_.kn_[10]),.slice mad ms.length mc,.int .u64 x.tm_,.int .i64 x.re_.er_,.string x.re_.v_,.int .u64 x.at_,.slice x.pi_.ad x.pi_.n x.pi_.c,.bool false]) (by kernel_rfl) hs3 ?_
 intro b4 w5 hs6 hz7
 have hs8:St w0 ((Sl (some ⟨b4,0,none⟩) 1 52 108 (S6V.cells mad ms.length mc) ([(⟨x,false⟩:S6V)]))::(Cel b1 (ApV.cells mad ms.length mc x) 41)::L) w5:=St.slOf (l:=[(⟨x,false⟩:S6V)]) (f:=S6V.cells mad ms.length mc) hs6 hz7 ((s6F mad ms.length mc)).size (by simp only [List.length_cons,List.length_nil,maxLen];omega) (by kernel_rfl)
 refine⟨Zqo,?_⟩
 refine Zqa (f:=10) (args:=#[zL b4 0 1 1,.int .i64 1]) Tryz.call10 (few26_spec x false ms (by simp only [Small,opSum];omega) (by simp only [Small,opSum];omega) (fun w h=>h.rows 0 rfl (s6F _ _ _).size _) (fun w h=>hm w (h.drop 2)) hs8) ?_
 rintro v11 w12 ⟨fb10,rfl,hs9⟩
 refine⟨Zqo,?_⟩
 refine Zr 4 1 [] ?_
 rcases Bool.eq_false_or_eq_true fb10 with h13|h13
 ·refine Zqs 7 true h13 ?_
  refine Zp 5 22 [(7,.gen [.string x.op_.y_]),(11,.gen [.string x.op_.v_]),(13,.as_ (.int .i64 ((x.op_.y_.size:Nat)+(x.op_.v_.size:Nat))) (.gen [])),(16,.gen [.string x.op_.o_]),(18,.as_ (.int .i64 (((x.op_.y_.size:Nat)+(x.op_.v_.size:Nat))+(x.op_.o_.size:Nat))) (.gen [])),(21,.gen [.string x.op_.t_]),(23,.as_ (.int .i64 ((((x.op_.y_.size:Nat)+(x.op_.v_.size:Nat))+(x.op_.o_.size:Nat))+(x.op_.t_.size:Nat))) (.gen []))] [(7,[.cell ⟨b1,7,none⟩ (.string x.op_.y_)]),(11,[.cell ⟨b1,8,none⟩ (.string x.op_.v_)]),(13,[.prop (Value.int .i64 (IntKind.i64.wrap ((x.op_.y_.size:Nat)+(x.op_.v_.size:Nat)))=Value.int .i64 ((x.op_.y_.size:Nat)+(x.op_.v_.size:Nat)))]),(16,[.cell ⟨b1,9,none⟩ (.string x.op_.o_)]),(18,[.prop (Value.int .i64 (IntKind.i64.wrap (((x.op_.y_.size:Nat)+(x.op_.v_.size:Nat))+(x.op_.o_.size:Nat)))=Value.int .i64 (((x.op_.y_.size:Nat)+(x.op_.v_.size:Nat))+(x.op_.o_.size:Nat)))]),(21,[.cell ⟨b1,10,none⟩ (.string x.op_.t_)]),(23,[.prop (Value.int .i64 (IntKind.i64.wrap ((((x.op_.y_.size:Nat)+(x.op_.v_.size:Nat))+(x.op_.o_.size:Nat))+(x.op_.t_.size:Nat)))=Value.int .i64 ((((x.op_.y_.size:Nat)+(x.op_.v_.size:Nat))+(x.op_.o_.size:Nat))+(x.op_.t_.size:Nat)))])] (ak (okc (hs9.cell 1 rfl (by kernel_rfl)) ok0) (ak (okc (hs9.cell 1 rfl (by kernel_rfl)) ok0) (ak (okp (i64ok (by omega) (by omega)) ok0) (ak (okc (hs9.cell 1 rfl (by kernel_rfl)) ok0) (ak (okp (i64ok (by omega) (by omega)) ok0) (ak (okc (hs9.cell 1 rfl (by kernel_rfl)) ok0) (ak (okp (i64ok (by omega) (by omega)) ok0) ak0))))))) ?_
  refine Zd (Zt (Ze ?_))
  refine Zq1 (v:=.bool (decide (((((x.op_.y_.size:Nat)+(x.op_.v_.size:Nat))+(x.op_.o_.size:Nat))+(x.op_.t_.size:Nat):Int)<2000))) ?_
  exact⟨_,rfl,hs9.drop 2⟩
 ·refine Zqs 7 false h13 ?_
  refine Zr 5 22 [] ?_
  refine Zd (Zt (Ze ?_))
  refine Zq1 (v:=.bool false) ?_
  exact⟨_,rfl,hs9.drop 2⟩
end Go.Proofs.YtmeacpdadahafaaGreatDoor
