/-
  Several texts in one: ShaB, ShaC, ShaH, ShaD, ShaE, ShaF, TagA, TagB, TagC, TagD.
-/
import Derived.Test.YthfpmlpoiocfdaaGreatDoorGaC
namespace Go.Proofs.YthfpmlpoiocfdaaGreatDoor
open Go.RowKit Go.Sx
set_option linter.unusedVariables false
set_option linter.unusedSimpArgs false
set_option linter.unnecessarySimpa false
set_option maxRecDepth 100000
section
variable {w0 w : World} {L : List bA}
def G1 (bl:List Int) (k j:Nat) (vl:List Int):List Int:=vl.set k (jQ .u32 (cD .u32 (vl.getD k 0) 8) (IntKind.u32.wrap (bl.getD ((4*k)+j) 0)))
def G2 (bl:List Int) (k:Nat) (wl:List Int):List Int:=iter (G1 bl k) 4 wl
def oB (bl:List Int):List Int:=iter (G2 bl) 16 (List.replicate 64 0)
def sK (i:Nat) (xl:List Int):List Int:=xl.set i (IntKind.u32.wrap ((IntKind.u32.wrap ((IntKind.u32.wrap ((xl.getD (i-16) 0)+(bX .u32 (bX .u32 (cK (xl.getD (i-15) 0) 7) (cK (xl.getD (i-15) 0) 18)) (aW .u32 (xl.getD (i-15) 0) 3))))+(xl.getD (i-7) 0)))+(bX .u32 (bX .u32 (cK (xl.getD (i-2) 0) 17) (cK (xl.getD (i-2) 0) 19)) (aW .u32 (xl.getD (i-2) 0) 10))))
def iG (bl:List Int):List Int:=iter (λn=>sK (n+16)) 48 (oB bl)
theorem FC {p:Nat}bl (hb:bl.length=64) (hs:St w0 (aB p (aA aD bl) 308::L) w):Cs Tryz.prog 324 #[zP p 0] w λrv w'=>rv=.agg (aA aY (iG bl))/\St w0 (aB p (aA aD bl) 308::L) w':=by
 refine dF Tryz.func324 Tryz.ntmps324 (En (Ls (Lg [0] (Dz (tW OH hs λu w2 b2=>Lo (Ld (Lt (Ls (Ls (Dz (dE (Hg 0 (.dH (zL u 0 16 64) (.sub 0 16)) [.prop ((16:Int)=((16:Nat):Int)),.prop (((none:Option Operand)=none->(0:Nat)=0)/\((some (Operand.const (.int .i64 16)))=none->(16:Nat)=64)/\(0:Nat)<=16/\(16:Nat)<=64),.prop (Value.slice (some (if 64=0 then Addr.mk u 0 none else (Addr.mk u 0 none).add (0*1))) (16-0) (64-0)=Value.slice (some ⟨u,0,none⟩) 16 64)] (aJ za (aJ ⟨(by first|(intro _;rfl)|(intro hc;cases hc)),(by first|(intro _;rfl)|(intro hc;cases hc)),za,za⟩ (aJ (eM _ _ _ _ _ zb) aR))) Hz) (Zt (Zb ?_)))))))))))))
 have b3:St w0 (aB u (aA aY (List.replicate 64 0)) 358::aB p (aA aD bl) 308::L) w2:=Eq.mp zk b2
 refine aX.loop (T:=Nat×(List Int)) (λgg=>[(0,zP p 0),(2,zP u 0),(10,.int .i64 16),(11,.int .i64 (gg.1:Nat))]) (λgg w=>(gg.1<=16/\gg.2=iter (G2 bl) gg.1 (List.replicate 64 0)/\gg.2.length=64)/\St w0 (aB u (aA aY gg.2) 358::aB p (aA aD bl) 308::L) w) (λgg=>16-gg.1) (0,(List.replicate 64 0)) [0,2,10,11] zk ⟨⟨Nat.zero_le _,rfl,rfl⟩,b3⟩ ?_
 rintro⟨k,wl⟩ w5 ⟨hp,a3⟩
 dsimp only at hp a3
 refine En (Lq (Ls (Dz (Zi ((k:Int)<16) (λb4=>?_) (λb4=>?_)))))
 ·refine En (Lk (Lt (Ls (Lb (Lq (Ls (Dz (dE (eT 3 (4*(k:Nat)) (eT 5 (4*(k:Nat)) (eT 6 ((4*(k:Nat))+4) (Hg 7 (.dH (zL p (0+((4*k)*1)) 4 (64-(4*k))) (.sub (4*k) (4*k+4))) [.prop ((4*(k:Nat):Int)=((4*k:Nat):Int)),.prop (((4*(k:Nat))+4:Int)=((4*k+4:Nat):Int)),.prop (((some (Operand.tmp 17))=none->(4*k:Nat)=0)/\((some (Operand.tmp 20))=none->(4*k+4:Nat)=64)/\(4*k:Nat)<=4*k+4/\(4*k+4:Nat)<=64),.prop (Value.slice (some (if 64=4*k then Addr.mk p 0 none else (Addr.mk p 0 none).add ((4*k)*1))) ((4*k+4)-(4*k)) (64-(4*k))=Value.slice (some ⟨p,0+((4*k)*1),none⟩) 4 (64-(4*k)))] (aJ za (aJ za (aJ ⟨(by first|(intro _;rfl)|(intro hc;cases hc)),(by first|(intro _;rfl)|(intro hc;cases hc)),za,za⟩ (aJ (AZ za za) aR)))) Hz)))) (Zt (Zb (aX.loop (T:=Nat×(List Int)) (λgg=>[(0,zP p 0),(2,zP u 0),(3,.int .i64 (k:Nat)),(10,.int .i64 16),(11,.int .i64 (k:Nat)),(21,zL p (0+((4*k)*1)) 4 (64-(4*k))),(22,.int .i64 4),(23,.int .i64 (gg.1:Nat))]) (λgg w=>(gg.1<=4/\gg.2=iter (G1 bl k) gg.1 wl/\gg.2.length=64)/\St w0 (aB u (aA aY gg.2) 358::aB p (aA aD bl) 308::L) w) (λgg=>4-gg.1) (0,wl) [0,2,3,10,11,21,22,23] zk ⟨⟨Nat.zero_le _,rfl,hp.2.2⟩,a3⟩ ?_)))))))))))
  rintro⟨j,vl⟩ w9 ⟨z,a0⟩
  dsimp only at z a0
  refine En (Lq (Ls (Dz (Zi ((j:Int)<4) (λb5=>?_) (λb5=>?_)))))
  ·exact Zk (Zt (Zs (Zb (Zs (dE (Hg 0 (.dH (zP p (0+(((4*k)+j)*1))) .at_) [.prop (0<=(j:Int)/\(j:Int)<(4:Int)),.prop (Value.pointer (some (Addr.add ⟨p,0+((4*k)*1),none⟩ (Int.toNat (j:Nat)*1)))=Value.pointer (some ⟨p,0+(((4*k)+j)*1),none⟩))] (aJ za (aJ (L8 _ _ _ _) aR)) (Hg 1 (.gen [.int .u8 (bl.getD ((4*k)+j) 0)]) [.cell ⟨p,0+(((4*k)+j)*1),none⟩ (.int .u8 (bl.getD ((4*k)+j) 0))] (bE (aC.cV (aG a0 1 rfl aF.size (0:Int)) (k:=((4*k)+j)) zo (j:=0) zb zk) aR) Hz)) (Zt (dZ [9] (Hx 2 (k:Int) (64:Int) u 0 1 (Hg 3 (.gen [.int .u32 (vl.getD k 0)]) [.cell ⟨u,0+(k*1),none⟩ (.int .u32 (vl.getD k 0))] (bE (aC.cV (aG a0 0 rfl bB.size (0:Int)) (k:=k) zo (j:=0) zb zk) aR) (Hg 4 (.shift (cD .u32 (vl.getD k 0) 8)) [.prop ((0:Int)<=8/\IntKind.u32.wrap ((vl.getD k 0)*2 ^ (min (Int.toNat 8) (IntKind.bits .u32)))=cD .u32 (vl.getD k 0) 8)] (aJ ⟨(by first|omega|exact bK rfl _),rfl⟩ aR) (Hx 8 (k:Int) (64:Int) u 0 1 Hz)))) (aL.store rfl rfl zk (b:=u) (off:=0+(k*1)) (v:=.int .u32 (jQ .u32 (cD .u32 (vl.getD k 0) 8) (IntKind.u32.wrap (bl.getD ((4*k)+j) 0)))) zk zk (ti:=Tryz.t305) zk a0 0 rfl zk zk (by rw [Nat.zero_add];exact gN (f:=aY) (size:=1) (l:=vl) (k:=k) bB.size zo) (cs':=aA aY (vl.set k (jQ .u32 (cD .u32 (vl.getD k 0) 8) (IntKind.u32.wrap (bl.getD ((4*k)+j) 0))))) (L':=(aB u (aA aY (vl.set k (jQ .u32 (cD .u32 (vl.getD k 0) 8) (IntKind.u32.wrap (bl.getD ((4*k)+j) 0))))) 358)::aB p (aA aD bl) 308::L) (by rw [Nat.zero_add];exact fO (f:=aY) (size:=1) (l:=vl) (k:=k) bB.size zo (jQ .u32 (cD .u32 (vl.getD k 0) 8) (IntKind.u32.wrap (bl.getD ((4*k)+j) 0)))) rfl λc1 b6=>Lo (Ld (Lm (Lt (Dz (dE (eT 0 ((j:Nat)+1) Hz) (aS.back (j+1,vl.set k (jQ .u32 (cD .u32 (vl.getD k 0) 8) (IntKind.u32.wrap (bl.getD ((4*k)+j) 0)))) [0,2,3,10,11,21,22,23] zk (by show 4-(j+1)<4-j;omega) ⟨⟨za,by rw [dW,<- z.2.1];rfl,by simp only [List.length_set];exact z.2.2⟩,b6⟩))))))))))))))
  ·exact Zx (aS.eQ (aS.eR (aS.kI (Zm (Zt (dE (eT 0 ((k:Nat)+1) Hz) (aS.back (k+1,vl) [0,2,10,11] zk (by show 16-(k+1)<16-k;omega) ⟨⟨za,by rw [z.2.1,show j=4 by omega,hp.2.1];exact(dW (G2 bl) k _).symm,z.2.2⟩,a0⟩)))))))
 ·refine En (Lx (mM (mN (Lh (Lt (Ls (Lq (Lb (Dz (aX.loop (T:=Nat×(List Int)) (λgg=>[(2,zP u 0),(6,.int .i64 (gg.1:Nat))]) (λgg w=>(16<=gg.1/\gg.1<=64/\gg.2=iter (λn=>sK (n+16)) (gg.1-16) (oB bl)/\gg.2.length=64)/\St w0 (aB u (aA aY gg.2) 358::aB p (aA aD bl) 308::L) w) (λgg=>64-gg.1) (16,wl) [2,6] zk ⟨⟨za,za,(by show wl=iter (λn=>sK (n+16)) (16-16) (oB bl);rw [Nat.sub_self,yY,hp.2.1,show k=16 by omega,oB]),hp.2.2⟩,a3⟩ ?_))))))))))
  rintro⟨i,xl⟩ c2 ⟨a1,a2⟩
  dsimp only at a1 a2
  refine En (Ls (Lq (Dz (Zi ((i:Int)<64) (λb7=>?_) (λb7=>?_)))))
  ·exact Zk (Zt (Zs (Zb (Zs (ZD (gE [0,1,2,3,4,5,6,7,8,9] .done) a2 λc3 a4 c4=>kV (Hg 1 (.dH (.int .i64 (i-15:Nat)) (.gen [])) [.prop (Value.int .i64 (IntKind.i64.wrap ((i:Nat)-15))=Value.int .i64 (i-15:Nat))] (aJ (ct za za za) aR) (Hx 2 ((i-15:Nat):Int) (64:Int) u 0 1 (Hg 3 (.gen [.int .u32 (xl.getD (i-15) 0)]) [.cell ⟨u,0+((i-15)*1),none⟩ (.int .u32 (xl.getD (i-15) 0))] (bE (aC.cV (aG a4 0 rfl bB.size (0:Int)) (k:=(i-15)) zo (j:=0) zb zk) aR) (Hg 5 (.dH (.int .i64 (i-2:Nat)) (.gen [])) [.prop (Value.int .i64 (IntKind.i64.wrap ((i:Nat)-2))=Value.int .i64 (i-2:Nat))] (aJ (ct za za za) aR) (Hx 6 ((i-2:Nat):Int) (64:Int) u 0 1 (Hg 7 (.gen [.int .u32 (xl.getD (i-2) 0)]) [.cell ⟨u,0+((i-2)*1),none⟩ (.int .u32 (xl.getD (i-2) 0))] (bE (aC.cV (aG a4 0 rfl bB.size (0:Int)) (k:=(i-2)) zo (j:=0) zb zk) aR) Hz)))))) (Zt (ZD (gE [0,1,2,3,4,5,7,10,11,14,15,16,17,19,21,24,25] (.ef 6 (.ef 8 (gE [9,12,13,18] (.ef 20 (.ef 22 (gE [23,26,27,28] (.ef 29 .done)))))))) a4 λc5 a5 c6=>Zj (Hg 2 (.dH (.int .i64 (i-16:Nat)) (.gen [])) [.prop (Value.int .i64 (IntKind.i64.wrap ((i:Nat)-16))=Value.int .i64 (i-16:Nat))] (aJ (ct za za za) aR) (Hx 3 ((i-16:Nat):Int) (64:Int) u 0 1 (Hg 4 (.gen [.int .u32 (xl.getD (i-16) 0)]) [.cell ⟨u,0+((i-16)*1),none⟩ (.int .u32 (xl.getD (i-16) 0))] (bE (aC.cV (aG a5 0 rfl bB.size (0:Int)) (k:=(i-16)) zo (j:=0) zb zk) aR) (Hg 11 (.shift (aW .u32 (xl.getD (i-15) 0) 3)) [.prop ((0:Int)<=3/\Int.fdiv (xl.getD (i-15) 0) (2 ^ (min (Int.toNat 3) (IntKind.bits .u32)))=aW .u32 (xl.getD (i-15) 0) 3)] (aJ ⟨(by first|omega|exact bK rfl _),rfl⟩ aR) (Hg 15 (.dH (.int .i64 (i-7:Nat)) (.gen [])) [.prop (Value.int .i64 (IntKind.i64.wrap ((i:Nat)-7))=Value.int .i64 (i-7:Nat))] (aJ (ct za za za) aR) (Hx 16 ((i-7:Nat):Int) (64:Int) u 0 1 (Hg 17 (.gen [.int .u32 (xl.getD (i-7) 0)]) [.cell ⟨u,0+((i-7)*1),none⟩ (.int .u32 (xl.getD (i-7) 0))] (bE (aC.cV (aG a5 0 rfl bB.size (0:Int)) (k:=(i-7)) zo (j:=0) zb zk) aR) (Hg 25 (.shift (aW .u32 (xl.getD (i-2) 0) 10)) [.prop ((0:Int)<=10/\Int.fdiv (xl.getD (i-2) 0) (2 ^ (min (Int.toNat 10) (IntKind.bits .u32)))=aW .u32 (xl.getD (i-2) 0) 10)] (aJ ⟨(by first|omega|exact bK rfl _),rfl⟩ aR) Hz)))))))) (CH (fP (xl.getD (i-15) 0) 7  a5) λc9 a6=>⟨gR (n:=[.prop ((0:Int)<=10/\Int.fdiv (xl.getD (i-2) 0) (2 ^ (min (Int.toNat 10) (IntKind.bits .u32)))=aW .u32 (xl.getD (i-2) 0) 10),.cell ⟨u,0+((i-7)*1),none⟩ (.int .u32 (xl.getD (i-7) 0)),.prop (0<=((i-7:Nat):Int)/\((i-7:Nat):Int)<(64:Int)),.prop (Value.pointer (some (Addr.add ⟨u,0,none⟩ (Int.toNat (i-7:Nat)*1)))=Value.pointer (some ⟨u,0+((i-7)*1),none⟩)),.prop (Value.int .i64 (IntKind.i64.wrap ((i:Nat)-7))=Value.int .i64 (i-7:Nat)),.prop ((0:Int)<=3/\Int.fdiv (xl.getD (i-15) 0) (2 ^ (min (Int.toNat 3) (IntKind.bits .u32)))=aW .u32 (xl.getD (i-15) 0) 3),.cell ⟨u,0+((i-16)*1),none⟩ (.int .u32 (xl.getD (i-16) 0)),.prop (0<=((i-16:Nat):Int)/\((i-16:Nat):Int)<(64:Int)),.prop (Value.pointer (some (Addr.add ⟨u,0,none⟩ (Int.toNat (i-16:Nat)*1)))=Value.pointer (some ⟨u,0+((i-16)*1),none⟩)),.prop (Value.int .i64 (IntKind.i64.wrap ((i:Nat)-16))=Value.int .i64 (i-16:Nat))]) zk (aJ ⟨(by first|omega|exact bK rfl _),rfl⟩ (bE (aC.cV (aG a6 0 rfl bB.size (0:Int)) (k:=(i-7)) zo (j:=0) zb zk) (aJ za (aJ (aU _ _ _) (aJ (ct za za za) (aJ ⟨(by first|omega|exact bK rfl _),rfl⟩ (bE (aC.cV (aG a6 0 rfl bB.size (0:Int)) (k:=(i-16)) zo (j:=0) zb zk) (aJ za (aJ (aU _ _ _) (aJ (ct za za za) aR)))))))))),(CH (fP (xl.getD (i-15) 0) 18  a6) λd2 a7=>⟨gR (n:=[.prop ((0:Int)<=10/\Int.fdiv (xl.getD (i-2) 0) (2 ^ (min (Int.toNat 10) (IntKind.bits .u32)))=aW .u32 (xl.getD (i-2) 0) 10),.cell ⟨u,0+((i-7)*1),none⟩ (.int .u32 (xl.getD (i-7) 0)),.prop (0<=((i-7:Nat):Int)/\((i-7:Nat):Int)<(64:Int)),.prop (Value.pointer (some (Addr.add ⟨u,0,none⟩ (Int.toNat (i-7:Nat)*1)))=Value.pointer (some ⟨u,0+((i-7)*1),none⟩)),.prop (Value.int .i64 (IntKind.i64.wrap ((i:Nat)-7))=Value.int .i64 (i-7:Nat)),.prop ((0:Int)<=3/\Int.fdiv (xl.getD (i-15) 0) (2 ^ (min (Int.toNat 3) (IntKind.bits .u32)))=aW .u32 (xl.getD (i-15) 0) 3),.cell ⟨u,0+((i-16)*1),none⟩ (.int .u32 (xl.getD (i-16) 0)),.prop (0<=((i-16:Nat):Int)/\((i-16:Nat):Int)<(64:Int)),.prop (Value.pointer (some (Addr.add ⟨u,0,none⟩ (Int.toNat (i-16:Nat)*1)))=Value.pointer (some ⟨u,0+((i-16)*1),none⟩)),.prop (Value.int .i64 (IntKind.i64.wrap ((i:Nat)-16))=Value.int .i64 (i-16:Nat))]) zk (aJ ⟨(by first|omega|exact bK rfl _),rfl⟩ (bE (aC.cV (aG a7 0 rfl bB.size (0:Int)) (k:=(i-7)) zo (j:=0) zb zk) (aJ za (aJ (aU _ _ _) (aJ (ct za za za) (aJ ⟨(by first|omega|exact bK rfl _),rfl⟩ (bE (aC.cV (aG a7 0 rfl bB.size (0:Int)) (k:=(i-16)) zo (j:=0) zb zk) (aJ za (aJ (aU _ _ _) (aJ (ct za za za) aR)))))))))),En (Lw (CH (fP (xl.getD (i-2) 0) 17  a7) λd4 a8=>⟨gR (n:=[.prop ((0:Int)<=10/\Int.fdiv (xl.getD (i-2) 0) (2 ^ (min (Int.toNat 10) (IntKind.bits .u32)))=aW .u32 (xl.getD (i-2) 0) 10),.cell ⟨u,0+((i-7)*1),none⟩ (.int .u32 (xl.getD (i-7) 0)),.prop (0<=((i-7:Nat):Int)/\((i-7:Nat):Int)<(64:Int)),.prop (Value.pointer (some (Addr.add ⟨u,0,none⟩ (Int.toNat (i-7:Nat)*1)))=Value.pointer (some ⟨u,0+((i-7)*1),none⟩)),.prop (Value.int .i64 (IntKind.i64.wrap ((i:Nat)-7))=Value.int .i64 (i-7:Nat)),.prop ((0:Int)<=3/\Int.fdiv (xl.getD (i-15) 0) (2 ^ (min (Int.toNat 3) (IntKind.bits .u32)))=aW .u32 (xl.getD (i-15) 0) 3),.cell ⟨u,0+((i-16)*1),none⟩ (.int .u32 (xl.getD (i-16) 0)),.prop (0<=((i-16:Nat):Int)/\((i-16:Nat):Int)<(64:Int)),.prop (Value.pointer (some (Addr.add ⟨u,0,none⟩ (Int.toNat (i-16:Nat)*1)))=Value.pointer (some ⟨u,0+((i-16)*1),none⟩)),.prop (Value.int .i64 (IntKind.i64.wrap ((i:Nat)-16))=Value.int .i64 (i-16:Nat))]) zk (aJ ⟨(by first|omega|exact bK rfl _),rfl⟩ (bE (aC.cV (aG a8 0 rfl bB.size (0:Int)) (k:=(i-7)) zo (j:=0) zb zk) (aJ za (aJ (aU _ _ _) (aJ (ct za za za) (aJ ⟨(by first|omega|exact bK rfl _),rfl⟩ (bE (aC.cV (aG a8 0 rfl bB.size (0:Int)) (k:=(i-16)) zo (j:=0) zb zk) (aJ za (aJ (aU _ _ _) (aJ (ct za za za) aR)))))))))),(CH (fP (xl.getD (i-2) 0) 19  a8) λd6 a9=>⟨gR (n:=[.prop ((0:Int)<=10/\Int.fdiv (xl.getD (i-2) 0) (2 ^ (min (Int.toNat 10) (IntKind.bits .u32)))=aW .u32 (xl.getD (i-2) 0) 10),.cell ⟨u,0+((i-7)*1),none⟩ (.int .u32 (xl.getD (i-7) 0)),.prop (0<=((i-7:Nat):Int)/\((i-7:Nat):Int)<(64:Int)),.prop (Value.pointer (some (Addr.add ⟨u,0,none⟩ (Int.toNat (i-7:Nat)*1)))=Value.pointer (some ⟨u,0+((i-7)*1),none⟩)),.prop (Value.int .i64 (IntKind.i64.wrap ((i:Nat)-7))=Value.int .i64 (i-7:Nat)),.prop ((0:Int)<=3/\Int.fdiv (xl.getD (i-15) 0) (2 ^ (min (Int.toNat 3) (IntKind.bits .u32)))=aW .u32 (xl.getD (i-15) 0) 3),.cell ⟨u,0+((i-16)*1),none⟩ (.int .u32 (xl.getD (i-16) 0)),.prop (0<=((i-16:Nat):Int)/\((i-16:Nat):Int)<(64:Int)),.prop (Value.pointer (some (Addr.add ⟨u,0,none⟩ (Int.toNat (i-16:Nat)*1)))=Value.pointer (some ⟨u,0+((i-16)*1),none⟩)),.prop (Value.int .i64 (IntKind.i64.wrap ((i:Nat)-16))=Value.int .i64 (i-16:Nat))]) zk (aJ ⟨(by first|omega|exact bK rfl _),rfl⟩ (bE (aC.cV (aG a9 0 rfl bB.size (0:Int)) (k:=(i-7)) zo (j:=0) zb zk) (aJ za (aJ (aU _ _ _) (aJ (ct za za za) (aJ ⟨(by first|omega|exact bK rfl _),rfl⟩ (bE (aC.cV (aG a9 0 rfl bB.size (0:Int)) (k:=(i-16)) zo (j:=0) zb zk) (aJ za (aJ (aU _ _ _) (aJ (ct za za za) aR)))))))))),Zj (Hx 28 (i:Int) (64:Int) u 0 1 Hz) (aL.store rfl rfl zk (b:=u) (off:=0+(i*1)) (v:=.int .u32 (IntKind.u32.wrap ((IntKind.u32.wrap ((IntKind.u32.wrap ((xl.getD (i-16) 0)+(bX .u32 (bX .u32 (cK (xl.getD (i-15) 0) 7) (cK (xl.getD (i-15) 0) 18)) (aW .u32 (xl.getD (i-15) 0) 3))))+(xl.getD (i-7) 0)))+(bX .u32 (bX .u32 (cK (xl.getD (i-2) 0) 17) (cK (xl.getD (i-2) 0) 19)) (aW .u32 (xl.getD (i-2) 0) 10))))) zk zk (ti:=Tryz.t305) zk a9 0 rfl zk zk (by rw [Nat.zero_add];exact gN (f:=aY) (size:=1) (l:=xl) (k:=i) bB.size zo) (cs':=aA aY (xl.set i (IntKind.u32.wrap ((IntKind.u32.wrap ((IntKind.u32.wrap ((xl.getD (i-16) 0)+(bX .u32 (bX .u32 (cK (xl.getD (i-15) 0) 7) (cK (xl.getD (i-15) 0) 18)) (aW .u32 (xl.getD (i-15) 0) 3))))+(xl.getD (i-7) 0)))+(bX .u32 (bX .u32 (cK (xl.getD (i-2) 0) 17) (cK (xl.getD (i-2) 0) 19)) (aW .u32 (xl.getD (i-2) 0) 10)))))) (L':=(aB u (aA aY (xl.set i (IntKind.u32.wrap ((IntKind.u32.wrap ((IntKind.u32.wrap ((xl.getD (i-16) 0)+(bX .u32 (bX .u32 (cK (xl.getD (i-15) 0) 7) (cK (xl.getD (i-15) 0) 18)) (aW .u32 (xl.getD (i-15) 0) 3))))+(xl.getD (i-7) 0)))+(bX .u32 (bX .u32 (cK (xl.getD (i-2) 0) 17) (cK (xl.getD (i-2) 0) 19)) (aW .u32 (xl.getD (i-2) 0) 10)))))) 358)::aB p (aA aD bl) 308::L) (by rw [Nat.zero_add];exact fO (f:=aY) (size:=1) (l:=xl) (k:=i) bB.size zo (IntKind.u32.wrap ((IntKind.u32.wrap ((IntKind.u32.wrap ((xl.getD (i-16) 0)+(bX .u32 (bX .u32 (cK (xl.getD (i-15) 0) 7) (cK (xl.getD (i-15) 0) 18)) (aW .u32 (xl.getD (i-15) 0) 3))))+(xl.getD (i-7) 0)))+(bX .u32 (bX .u32 (cK (xl.getD (i-2) 0) 17) (cK (xl.getD (i-2) 0) 19)) (aW .u32 (xl.getD (i-2) 0) 10))))) rfl λd7 b9=>Lo (Ld (Lm (Lt (Dz (dE (eT 1 ((i:Nat)+1) Hz) (aS.back (i+1,xl.set i (IntKind.u32.wrap ((IntKind.u32.wrap ((IntKind.u32.wrap ((xl.getD (i-16) 0)+(bX .u32 (bX .u32 (cK (xl.getD (i-15) 0) 7) (cK (xl.getD (i-15) 0) 18)) (aW .u32 (xl.getD (i-15) 0) 3))))+(xl.getD (i-7) 0)))+(bX .u32 (bX .u32 (cK (xl.getD (i-2) 0) 17) (cK (xl.getD (i-2) 0) 19)) (aW .u32 (xl.getD (i-2) 0) 10))))) [2,6] zk (by show 64-(i+1)<64-i;omega) ⟨⟨za,za,by rw [show i+1-16=(i-16)+1 by omega,dW,<- a1.2.2.1,show i-16+16=i by omega];rfl,by simp only [List.length_set];exact a1.2.2.2⟩,b9⟩)))))))⟩)⟩))⟩)⟩))))))))
  ·exact Zx (aS.eQ (aS.eR (aS.kI (Zt (Zs (dZ [1] (Hg 0 (.agg (aA aY xl)) [.prop (Array.size (aA aY xl)=64),.cells ⟨u,0,none⟩ (aA aY xl)] (aJ (bS bB (show(xl).length=64 from zF) rfl) (iN (a2.cells 0 0 rfl zw) aR)) Hz) (aL.store rfl rfl zk (b:=u) (off:=0) (v:=.agg (aA aY xl)) zk zk (ti:=Tryz.t358) zk a2 0 rfl (cR bB (show(xl).length=64 from zF) zk) (eO bB) (eC bB (show(xl).length=64 from zF) (by rw [bS bB (show(xl).length=64 from zF) (m:=64) rfl];rfl)) (cs':=aA aY xl) (L':=(aB u (aA aY xl) 358)::aB p (aA aD bl) 308::L) (fA bB (show(xl).length=64 from zF) (by rw [bS bB (show(xl).length=64 from zF) (m:=64) rfl];rfl)) rfl λd8 b0=>Lo (Ld (Lt (Le (Dz (aS.done (.inl rfl) (v:=.agg (aA aY xl)) (λa hf=>dS rfl zk (ti:=Tryz.t358) zk zk (vs:=aA aY xl) (bS bB (show(xl).length=64 from zF) zk) (b0.cells 0 0 rfl zw) a hf) ⟨(by rw [a1.2.2.1,show i=64 by omega];rfl),b0.dr 1⟩))))))))))))
end
section
variable {w0 w : World} {L : List bA}
theorem rE {α:Type}{f:Nat->α->α}{p:α->Prop}(hf:∀ n a,p a->p (f n a)) (n:Nat){a:α}(ha:p a):p (iter f n a):=by
 induction n with
 | zero=>exact ha
 | succ n ih=>exact hf n _ ih
theorem yi (bl:List Int):(oB bl).length=64 :=
 rE (p:=λl:List Int=>l.length=64) (λk a h=>rE (p:=λl:List Int=>l.length=64) (λj b h=>by unfold G1;rw [List.length_set];exact h) 4 h) 16 (by rw [List.length_replicate])
theorem yj (bl:List Int):(iG bl).length=64 :=
 rE (p:=λl:List Int=>l.length=64) (λk a h=>by unfold sK;rw [List.length_set];exact h) 48 (yi bl)
def shaT:List Int:=[1116352408,1899447441,3049323471,3921009573,961987163,1508970993,2453635748,2870763221,3624381080,310598401,607225278,1426881987,1925078388,2162078206,2614888103,3248222580,3835390401,4022224774,264347078,604807628,770255983,1249150122,1555081692,1996064986,2554220882,2821834349,2952996808,3210313671,3336571891,3584528711,113926993,338241895,666307205,773529912,1294757372,1396182291,1695183700,1986661051,2177026350,2456956037,2730485921,2820302411,3259730800,3345764771,3516065817,3600352804,4094571909,275423344,430227734,506948616,659060556,883997877,958139571,1322822218,1537002063,1747873779,1955562222,2024104815,2227730452,2361852424,2428436474,2756734187,3204031479,3329325298]
theorem ud:shaT.length=64:=zb
def kA (w:World):Prop:=aC w (some ⟨1,0,none⟩) 64 1 (λk=>aY (shaT.getD k 0))
abbrev T8:=Int×Int×Int×Int×Int×Int×Int×Int
def C8 (ws:List Int) (k:Nat) (t:T8):T8:=(IntKind.u32.wrap ((IntKind.u32.wrap ((IntKind.u32.wrap ((IntKind.u32.wrap ((IntKind.u32.wrap (t.2.2.2.2.2.2.2+(bX .u32 (bX .u32 (cK t.2.2.2.2.1 6) (cK t.2.2.2.2.1 11)) (cK t.2.2.2.2.1 25))))+(bX .u32 (ic .u32 t.2.2.2.2.1 t.2.2.2.2.2.1) (ic .u32 (H4 .u32 t.2.2.2.2.1) t.2.2.2.2.2.2.1))))+(shaT.getD k 0)))+(ws.getD k 0)))+(IntKind.u32.wrap ((bX .u32 (bX .u32 (cK t.1 2) (cK t.1 13)) (cK t.1 22))+(bX .u32 (bX .u32 (ic .u32 t.1 t.2.1) (ic .u32 t.1 t.2.2.1)) (ic .u32 t.2.1 t.2.2.1))))),
 t.1,
 t.2.1,
 t.2.2.1,
 IntKind.u32.wrap (t.2.2.2.1+(IntKind.u32.wrap ((IntKind.u32.wrap ((IntKind.u32.wrap ((IntKind.u32.wrap (t.2.2.2.2.2.2.2+(bX .u32 (bX .u32 (cK t.2.2.2.2.1 6) (cK t.2.2.2.2.1 11)) (cK t.2.2.2.2.1 25))))+(bX .u32 (ic .u32 t.2.2.2.2.1 t.2.2.2.2.2.1) (ic .u32 (H4 .u32 t.2.2.2.2.1) t.2.2.2.2.2.2.1))))+(shaT.getD k 0)))+(ws.getD k 0)))),
 t.2.2.2.2.1,
 t.2.2.2.2.2.1,
 t.2.2.2.2.2.2.1)
def ue (t:T8):List Int:=[t.1,t.2.1,t.2.2.1,t.2.2.2.1,t.2.2.2.2.1,t.2.2.2.2.2.1,t.2.2.2.2.2.2.1,t.2.2.2.2.2.2.2]
def Iw (al:List Int) (j:Nat) (vl:List Int):List Int:=vl.set j (IntKind.u32.wrap ((vl.getD j 0)+(al.getD j 0)))
def dA (s bl:List Int):List Int:=iter (Iw (ue (iter (C8 (iG bl)) 64 (s.getD 0 0,s.getD 1 0,s.getD 2 0,s.getD 3 0,s.getD 4 0,s.getD 5 0,s.getD 6 0,s.getD 7 0)))) 8 s
theorem Kc {s bl:List Int}{xa xb xc xd xe xf xg xh:Int}(h:(xa,xb,xc,xd,xe,xf,xg,xh)=iter (C8 (iG bl)) 64 (s.getD 0 0,s.getD 1 0,s.getD 2 0,s.getD 3 0,s.getD 4 0,s.getD 5 0,s.getD 6 0,s.getD 7 0)):iter (Iw [xa,xb,xc,xd,xe,xf,xg,xh]) 8 s=dA s bl:=by
 unfold dA
 rw [<- h]
 rfl
theorem dR {s:List Int}(h:s.length=8) (bl:List Int):(dA s bl).length=8 :=
 rE (p:=λl:List Int=>l.length=8) (λk a h=>by unfold Iw;rw [List.length_set];exact h) 8 h
theorem zA {p:Prop}(h:p:=by first|omega|(simp only [yj,List.length_cons,List.length_nil];omega)):p:=h
theorem FD s bl (hs8:s.length=8) (hb:bl.length=64) (hT:∀ w,St w0 L w->kA w) (hs:St w0 L w):Cs Tryz.prog 285 #[.agg (aA aY s),.agg (aA aD bl)] w λrv w'=>rv=.agg (aA aY (dA s bl))/\St w0 L w':=by
 refine dF Tryz.func285 Tryz.ntmps285 (En (Ls (Lg [0,1,2] (Dz (mT (aA aY s) hs λu w2 a8=>Lo (Dz (mT (aA aD bl) a8 λb4 w5 a9=>Lo (Dz (tW vz a9 λb7 w8 b0=>Lo (Ld (Lt (Ls (Dz (ZD (gE [0,1,2,3,4,5,6,7,8,9,10,11,12,13,14,15,16,17,18,19,20,21,22,23] .done) b0 λc4 z c5=>kV (Hx 0 (0:Int) (8:Int) u 0 1 (Hg 1 (.gen [.int .u32 (s.getD 0 0)]) [.cell ⟨u,0,none⟩ (.int .u32 (s.getD 0 0))] (bE (aC.cV (aG z 2 rfl bB.size (0:Int)) (k:=0) zo (j:=0) zb zk) aR) (Hx 2 (1:Int) (8:Int) u 0 1 (Hg 3 (.gen [.int .u32 (s.getD 1 0)]) [.cell ⟨u,1,none⟩ (.int .u32 (s.getD 1 0))] (bE (aC.cV (aG z 2 rfl bB.size (0:Int)) (k:=1) zo (j:=0) zb zk) aR) (Hx 4 (2:Int) (8:Int) u 0 1 (Hg 5 (.gen [.int .u32 (s.getD 2 0)]) [.cell ⟨u,2,none⟩ (.int .u32 (s.getD 2 0))] (bE (aC.cV (aG z 2 rfl bB.size (0:Int)) (k:=2) zo (j:=0) zb zk) aR) (Hx 6 (3:Int) (8:Int) u 0 1 (Hg 7 (.gen [.int .u32 (s.getD 3 0)]) [.cell ⟨u,3,none⟩ (.int .u32 (s.getD 3 0))] (bE (aC.cV (aG z 2 rfl bB.size (0:Int)) (k:=3) zo (j:=0) zb zk) aR) (Hx 8 (4:Int) (8:Int) u 0 1 (Hg 9 (.gen [.int .u32 (s.getD 4 0)]) [.cell ⟨u,4,none⟩ (.int .u32 (s.getD 4 0))] (bE (aC.cV (aG z 2 rfl bB.size (0:Int)) (k:=4) zo (j:=0) zb zk) aR) (Hx 10 (5:Int) (8:Int) u 0 1 (Hg 11 (.gen [.int .u32 (s.getD 5 0)]) [.cell ⟨u,5,none⟩ (.int .u32 (s.getD 5 0))] (bE (aC.cV (aG z 2 rfl bB.size (0:Int)) (k:=5) zo (j:=0) zb zk) aR) (Hx 12 (6:Int) (8:Int) u 0 1 (Hg 13 (.gen [.int .u32 (s.getD 6 0)]) [.cell ⟨u,6,none⟩ (.int .u32 (s.getD 6 0))] (bE (aC.cV (aG z 2 rfl bB.size (0:Int)) (k:=6) zo (j:=0) zb zk) aR) (Hx 14 (7:Int) (8:Int) u 0 1 (Hg 15 (.gen [.int .u32 (s.getD 7 0)]) [.cell ⟨u,7,none⟩ (.int .u32 (s.getD 7 0))] (bE (aC.cV (aG z 2 rfl bB.size (0:Int)) (k:=7) zo (j:=0) zb zk) aR) Hz)))))))))))))))) (En (Lt (Ls (Ls (Lg [0] (Dz (CH (FC bl zc (z.pl 1)) λc7 b3=>Lz (Lb (Dz (aX.loop (T:=Nat×Int×Int×Int×Int×Int×Int×Int×Int) (λgg=>[(2,zP u 0),(4,zP b7 0),(5,.int .u32 gg.2.1),(6,.int .u32 gg.2.2.1),(7,.int .u32 gg.2.2.2.1),(8,.int .u32 gg.2.2.2.2.1),(9,.int .u32 gg.2.2.2.2.2.1),(10,.int .u32 gg.2.2.2.2.2.2.1),(11,.int .u32 gg.2.2.2.2.2.2.2.1),(12,.int .u32 gg.2.2.2.2.2.2.2.2),(35,.agg (aA aY (iG bl))),(36,.int .i64 (gg.1:Nat))]) (λgg w=>(gg.1<=64/\(gg.2.1,gg.2.2.1,gg.2.2.2.1,gg.2.2.2.2.1,gg.2.2.2.2.2.1,gg.2.2.2.2.2.2.1,gg.2.2.2.2.2.2.2.1,gg.2.2.2.2.2.2.2.2)=iter (C8 (iG bl)) gg.1 ((s.getD 0 0),s.getD 1 0,s.getD 2 0,s.getD 3 0,s.getD 4 0,s.getD 5 0,s.getD 6 0,(s.getD 7 0)))/\St w0 (aB b4 (aA aD bl) 308::aB b7 vz 306::aB u (aA aY s) 306::L) w) (λgg=>64-gg.1) (0,s.getD 0 0,s.getD 1 0,s.getD 2 0,s.getD 3 0,s.getD 4 0,s.getD 5 0,s.getD 6 0,(s.getD 7 0)) [2,4,5,6,7,8,9,10,11,12,35,36] zk ⟨⟨Nat.zero_le _,rfl⟩,b3⟩ ?_))))))))))))))))))))))))
 rintro⟨k,xa,xb,xc,xd,xe,xf,xg,xh⟩ c9 ⟨hp,a2⟩
 dsimp only at hp a2
 refine En (Lq (Ls (Dz (Zi ((k:Int)<64) (λb5=>?_) (λb5=>?_)))))
 ·exact Zk (Zt (Zs (Zb (Zs (dE (Hg 1 (.elem (.int .u32 ((iG bl).getD k 0))) [.prop (0<=(k:Int)/\(k:Int)<(64:Int)),.prop ((aA aY (iG bl))[Int.toNat (k:Nat)*1]?=some (.int .u32 ((iG bl).getD k 0)))] (aJ za (aJ (A0 (d:=(0:Int)) (k:=k) bB za zA zk) aR)) Hz) (Zt (Zs (ZD (gE [0,1,3,6,10,11,12,13,14,15,16,17,19,20,21,23] (.ef 2 (.ef 4 (.rd 5 (.ef 7 (gE [8,9,18,22,24,25] .done)))))) a2 λd1 a3 d2=>Zj (Hx 20 (k:Int) (64:Int) 1 0 1 (Hg 21 (.gen [.int .u32 (shaT.getD k 0)]) [.cell ⟨1,0+(k*1),none⟩ (.int .u32 (shaT.getD k 0))] (bE (aC.cV (hT _ (a3.drop 3)) (k:=k) zo (j:=0) zb zk) aR) Hz)) (CH (fP xe 6  a3) λd4 a4=>⟨gR (n:=[.cell ⟨1,0+(k*1),none⟩ (.int .u32 (shaT.getD k 0)),.prop (0<=(k:Int)/\(k:Int)<(64:Int)),.prop (Value.pointer (some (Addr.add ⟨1,0,none⟩ (Int.toNat (k:Nat)*1)))=Value.pointer (some ⟨1,0+(k*1),none⟩))]) zk (bE (aC.cV (hT _ (a4.drop 3)) (k:=k) zo (j:=0) zb zk) (aJ za (aJ (aU _ _ _) aR))),(CH (fP xe 11  a4) λd6 a5=>⟨gR (n:=[.cell ⟨1,0+(k*1),none⟩ (.int .u32 (shaT.getD k 0)),.prop (0<=(k:Int)/\(k:Int)<(64:Int)),.prop (Value.pointer (some (Addr.add ⟨1,0,none⟩ (Int.toNat (k:Nat)*1)))=Value.pointer (some ⟨1,0+(k*1),none⟩))]) zk (bE (aC.cV (hT _ (a5.drop 3)) (k:=k) zo (j:=0) zb zk) (aJ za (aJ (aU _ _ _) aR))),En (Lw (CH (fP xe 25  a5) λd8 a6=>⟨gR (n:=[.cell ⟨1,0+(k*1),none⟩ (.int .u32 (shaT.getD k 0)),.prop (0<=(k:Int)/\(k:Int)<(64:Int)),.prop (Value.pointer (some (Addr.add ⟨1,0,none⟩ (Int.toNat (k:Nat)*1)))=Value.pointer (some ⟨1,0+(k*1),none⟩))]) zk (bE (aC.cV (hT _ (a6.drop 3)) (k:=k) zo (j:=0) zb zk) (aJ za (aJ (aU _ _ _) aR))),En (cI (Lt (Ls (Lg [1,3,6] (Lw (CH (fP xa 2  a6) λe0 b6=>Lo (Lw (CH (fP xa 13  b6) λe2 b9=>Lo (Lw (CH (fP xa 22  b9) λe4 c0=>Lz (La (Lm (Lt (Dz (dE (eT 0 ((k:Nat)+1) Hz) (aS.back (k+1,IntKind.u32.wrap ((IntKind.u32.wrap ((IntKind.u32.wrap ((IntKind.u32.wrap ((IntKind.u32.wrap (xh+(bX .u32 (bX .u32 (cK xe 6) (cK xe 11)) (cK xe 25))))+(bX .u32 (ic .u32 xe xf) (ic .u32 (H4 .u32 xe) xg))))+(shaT.getD k 0)))+((iG bl).getD k 0)))+(IntKind.u32.wrap ((bX .u32 (bX .u32 (cK xa 2) (cK xa 13)) (cK xa 22))+(bX .u32 (bX .u32 (ic .u32 xa xb) (ic .u32 xa xc)) (ic .u32 xb xc))))),xa,xb,xc,IntKind.u32.wrap (xd+(IntKind.u32.wrap ((IntKind.u32.wrap ((IntKind.u32.wrap ((IntKind.u32.wrap (xh+(bX .u32 (bX .u32 (cK xe 6) (cK xe 11)) (cK xe 25))))+(bX .u32 (ic .u32 xe xf) (ic .u32 (H4 .u32 xe) xg))))+(shaT.getD k 0)))+((iG bl).getD k 0)))),xe,xf,xg) [2,4,5,6,7,8,9,10,11,12,35,36] zk (by show 64-(k+1)<64-k;omega) ⟨⟨za,by rw [dW,<- hp.2];rfl⟩,c0⟩))))))))))))))))⟩))⟩)⟩)))))))))
 ·refine En (Lx (mM (mN (Lh (Lt (Ls (Lq (Lb (Dz (aX.loop (T:=Nat×(List Int)) (λgg=>[(2,zP u 0),(4,zP b7 0),(106,.agg (aA aY ([xa,xb,xc,xd,xe,xf,xg,xh]))),(107,.int .i64 (gg.1:Nat))]) (λgg w=>(gg.1<=8/\gg.2=iter (Iw [xa,xb,xc,xd,xe,xf,xg,xh]) gg.1 s/\gg.2.length=8)/\St w0 (aB b4 (aA aD bl) 308::aB b7 vz 306::aB u (aA aY gg.2) 306::L) w) (λgg=>8-gg.1) (0,s) [2,4,106,107] zk ⟨⟨Nat.zero_le _,rfl,hs8⟩,a2⟩ ?_))))))))))
  rintro⟨j,vl⟩ e5 ⟨a0,a1⟩
  dsimp only at a0 a1
  refine En (Lq (Ls (Dz (Zi ((j:Int)<8) (λc1=>?_) (λc1=>?_)))))
  ·exact Zk (Zt (Zs (Zb (Zs (dE (Hg 1 (.elem (.int .u32 (([xa,xb,xc,xd,xe,xf,xg,xh]).getD j 0))) [.prop (0<=(j:Int)/\(j:Int)<(8:Int)),.prop ((aA aY ([xa,xb,xc,xd,xe,xf,xg,xh]))[Int.toNat (j:Nat)*1]?=some (.int .u32 (([xa,xb,xc,xd,xe,xf,xg,xh]).getD j 0)))] (aJ za (aJ (A0 (d:=(0:Int)) (k:=j) bB za zA zk) aR)) Hz) (Zt (dZ [6] (Hx 1 (j:Int) (8:Int) u 0 1 (Hg 2 (.gen [.int .u32 (vl.getD j 0)]) [.cell ⟨u,0+(j*1),none⟩ (.int .u32 (vl.getD j 0))] (bE (aC.cV (aG a1 2 rfl bB.size (0:Int)) (k:=j) zo (j:=0) zb zk) aR) (Hx 5 (j:Int) (8:Int) u 0 1 Hz))) (aL.store rfl rfl zk (b:=u) (off:=0+(j*1)) (v:=.int .u32 (IntKind.u32.wrap ((vl.getD j 0)+(([xa,xb,xc,xd,xe,xf,xg,xh]).getD j 0)))) zk zk (ti:=Tryz.t305) zk a1 2 rfl zk zk (by rw [Nat.zero_add];exact gN (f:=aY) (size:=1) (l:=vl) (k:=j) bB.size zo) (cs':=aA aY (vl.set j (IntKind.u32.wrap ((vl.getD j 0)+(([xa,xb,xc,xd,xe,xf,xg,xh]).getD j 0))))) (L':=(aB b4 (aA aD bl) 308)::aB b7 vz 306::aB u (aA aY (vl.set j (IntKind.u32.wrap ((vl.getD j 0)+(([xa,xb,xc,xd,xe,xf,xg,xh]).getD j 0))))) 306::L) (by rw [Nat.zero_add];exact fO (f:=aY) (size:=1) (l:=vl) (k:=j) bB.size zo (IntKind.u32.wrap ((vl.getD j 0)+(([xa,xb,xc,xd,xe,xf,xg,xh]).getD j 0)))) rfl λe6 c2=>Lo (Ld (Lm (Lt (Dz (dE (eT 0 ((j:Nat)+1) Hz) (aS.back (j+1,vl.set j (IntKind.u32.wrap ((vl.getD j 0)+(([xa,xb,xc,xd,xe,xf,xg,xh]).getD j 0)))) [2,4,106,107] zk (by show 8-(j+1)<8-j;omega) ⟨⟨za,by rw [dW,<- a0.2.1];rfl,by simp only [List.length_set];exact a0.2.2⟩,c2⟩))))))))))))))
  ·exact Zx (aS.eQ (aS.eR (aS.kI (Zt (Zs (dZ [1] (Hg 0 (.agg (aA aY vl)) [.prop (Array.size (aA aY vl)=8),.cells ⟨u,0,none⟩ (aA aY vl)] (aJ (bS bB (show(vl).length=8 from a0.2.2) rfl) (iN (a1.cells 2 0 rfl zw) aR)) Hz) (aL.store rfl rfl zk (b:=b7) (off:=0) (v:=.agg (aA aY vl)) zk zk (ti:=Tryz.t306) zk a1 1 rfl (cR bB (show(vl).length=8 from a0.2.2) zk) (eO bB) (eC bB (show(vl).length=8 from a0.2.2) zk) (cs':=aA aY vl) (L':=(aB b4 (aA aD bl) 308)::aB b7 (aA aY vl) 306::aB u (aA aY vl) 306::L) (fA bB (show(vl).length=8 from a0.2.2) zk) rfl λe7 a7=>Lo (Ld (Lt (Le (Dz (aS.done (.inl rfl) (v:=.agg (aA aY vl)) (λa hf=>dS rfl zk (ti:=Tryz.t306) zk zk (vs:=aA aY vl) (bS bB (show(vl).length=8 from a0.2.2) zk) (a7.cells 1 0 rfl zw) a hf) ⟨(by rw [a0.2.1,show j=8 by omega];exact congrArg (λl=>Value.agg (aA aY l)) (Kc (hp.2.trans (by rw [show k=64 by omega])))),a7.dr 3⟩))))))))))))
end
end Go.Proofs.YthfpmlpoiocfdaaGreatDoor
namespace Go.Proofs.YthfpmlpoiocfdaaGreatDoor
open Go.RowKit Go.Sx
set_option linter.unusedVariables false
set_option linter.unusedSimpArgs false
set_option maxRecDepth 100000
set_option linter.unusedSectionVars false
theorem iS:∀ (vs pre lk post:List Value),lk.length=vs.length->aV (pre++lk++post).toArray pre.length vs=(pre++vs++post).toArray
 | [],pre,lk,post,h=>by
  have:lk=[]:=List.length_eq_zero_iff.1 h
  subst this
  rfl
 | v::vs,pre,m::lk,post,h=>by
  have h1:lk.length=vs.length:=by simpa using h
  have e:((pre++m::lk++post).toArray.setIfInBounds pre.length v)=((pre++[v])++lk++post).toArray:=by
   apply Array.ext'
   simp [List.set_append]
  have ih:=iS vs (pre++[v]) lk post h1
  rw [List.length_append] at ih
  show aV ((pre++m::lk++post).toArray.setIfInBounds pre.length v) (pre.length+1) vs=_
  rw [e]
  rw [show pre.length+1=pre.length+[v].length from rfl,ih]
  congr 1
  simp
 | _::_,_,[],_,h=>by simp at h
def jB (s part:List Int) (n all:Int):List Value:=s.map (Value.int .u32)++part.map (Value.int .u8)++[.int .i64 n,.int .u64 all]
def bI (s part:List Int) (n all:Int):Array Value:=(jB s part n all).toArray
theorem C9 (l:List Int):(aA aY l)=(l.map (Value.int .u32)).toArray:=by
 apply Array.ext'
 simp only [aA]
 induction l with
 | nil=>rfl
 | cons a l ih=>simp only [List.flatMap_cons,List.map_cons,ih];rfl
theorem oC (l:List Int):(l.flatMap λx=>(aD x).toList)=l.map (Value.int .u8):=by
 induction l with
 | nil=>rfl
 | cons a l ih=>simp only [List.flatMap_cons,List.map_cons,ih];rfl
theorem qy (l:List Int):(aA aD l)=(l.map (Value.int .u8)).toArray:=by
 apply Array.ext'
 simp only [aA]
 exact oC l
section
variable {s part : List Int} {n all : Int} (h8 : s.length = 8) (h64 : part.length = 64)
include h8 h64
theorem kY:(bI s part n all).size=74:=by
 simp only [bI,jB,List.size_toArray,List.length_append,List.length_map,List.length_cons,List.length_nil];omega
theorem A8:(bI s part n all)[72]?=some (.int .i64 n):=by
 simp only [bI,jB,List.getElem?_toArray]
 rw [List.getElem?_append_right (by simp only [List.length_append,List.length_map];omega)]
 simp only [List.length_append,List.length_map,h8,h64]
 rfl
theorem Da:(bI s part n all)[73]?=some (.int .u64 all):=by
 simp only [bI,jB,List.getElem?_toArray]
 rw [List.getElem?_append_right (by simp only [List.length_append,List.length_map];omega)]
 simp only [List.length_append,List.length_map,h8,h64]
 rfl
theorem Kd:(bI s part n all).extract 0 (0+(aA aY s).size)=aA aY s:=by
 rw [C9]
 apply Array.ext'
 simp only [bI,jB,List.extract_toArray,List.size_toArray,List.length_map,List.extract_eq_take_drop,List.drop_zero,Nat.zero_add,Nat.sub_zero,List.append_assoc]
 exact List.take_left' (List.length_map ..)
theorem Ix:(bI s part n all).extract 8 (8+(aA aD part).size)=aA aD part:=by
 rw [qy]
 apply Array.ext'
 simp only [bI,jB,List.extract_toArray,List.size_toArray,List.length_map,List.extract_eq_take_drop,Nat.add_sub_cancel_left]
 rw [List.append_assoc,List.drop_left' (by rw [List.length_map,h8]),List.take_left' (List.length_map ..)]
theorem Nb (m:Int):aV (bI s part n all) 72 [.int .i64 m]=bI s part m all:=by
 have:=iS [.int .i64 m] (s.map (Value.int .u32)++part.map (Value.int .u8)) [.int .i64 n] [.int .u64 all] rfl
 rw [show(s.map (Value.int .u32)++part.map (Value.int .u8)).length=72 by simp only [List.length_append,List.length_map];omega] at this
 simpa [bI,jB] using this
theorem rF (m:Int):aV (bI s part n all) 73 [.int .u64 m]=bI s part n m:=by
 have:=iS [.int .u64 m] (s.map (Value.int .u32)++part.map (Value.int .u8)++[.int .i64 n]) [.int .u64 all] [] rfl
 rw [show(s.map (Value.int .u32)++part.map (Value.int .u8)++[Value.int .i64 n]).length=73 by simp only [List.length_append,List.length_map,List.length_cons,List.length_nil];omega] at this
 simpa [bI,jB] using this
theorem OQ {s':List Int}(h:s'.length=8):aV (bI s part n all) 0 (Value.cells (.agg (aA aY s'))).toList=bI s' part n all:=by
 have:=iS (s'.map (Value.int .u32)) [] (s.map (Value.int .u32)) (part.map (Value.int .u8)++[.int .i64 n,.int .u64 all]) (by rw [List.length_map,List.length_map,h8,h])
 have e:(Value.cells (.agg (aA aY s'))).toList=s'.map (Value.int .u32):=by show(aA aY s').toList=_;rw [C9]
 rw [e]
 simpa [bI,jB] using this
theorem Iy {s' part':List Int}{n' all':Int}(h8':s'.length=8) (h64':part'.length=64):aV (bI s part n all) 0 (Value.cells (.agg (bI s' part' n' all'))).toList=bI s' part' n' all':=by
 have:=iS (jB s' part' n' all') [] (jB s part n all) [] (by simp only [jB,List.length_append,List.length_map,List.length_cons,List.length_nil];omega)
 rw [List.nil_append,List.append_nil,List.nil_append,List.append_nil] at this
 exact this
def cG (part:List Int) (a:Nat) (ys:List Int):List Int:=part.take a++ys++part.drop (a+ys.length)
omit h8 in
theorem A9 {a:Nat}{ys:List Int}(h:a+ys.length<=64):(cG part a ys).length=64:=by
 simp only [cG,List.length_append,List.length_take,List.length_drop];omega
theorem Ke {a:Nat}{ys:List Int}(h:a+ys.length<=64):aV (bI s part n all) (8+a) (ys.flatMap λx=>(aD x).toList)=bI s (cG part a ys) n all:=by
 have e1:part=part.take a++(part.drop a).take ys.length++part.drop (a+ys.length):=by
  rw [List.append_assoc,<- List.drop_drop,List.take_append_drop,List.take_append_drop]
 have:=iS (ys.map (Value.int .u8)) (s.map (Value.int .u32)++(part.take a).map (Value.int .u8)) (((part.drop a).take ys.length).map (Value.int .u8)) ((part.drop (a+ys.length)).map (Value.int .u8)++[.int .i64 n,.int .u64 all])
  (by simp only [List.length_map,List.length_take,List.length_drop];omega)
 rw [show(s.map (Value.int .u32)++(part.take a).map (Value.int .u8)).length=8+a by simp only [List.length_append,List.length_map,List.length_take];omega] at this
 rw [oC]
 have e2:jB s part n all=s.map (Value.int .u32)++(part.take a).map (Value.int .u8)++((part.drop a).take ys.length).map (Value.int .u8)++((part.drop (a+ys.length)).map (Value.int .u8)++[.int .i64 n,.int .u64 all]):=by
  conv=>lhs;rw [jB,e1]
  simp only [List.map_append,List.append_assoc]
 have e3:jB s (cG part a ys) n all=s.map (Value.int .u32)++(part.take a).map (Value.int .u8)++ys.map (Value.int .u8)++((part.drop (a+ys.length)).map (Value.int .u8)++[.int .i64 n,.int .u64 all]):=by
  simp only [jB,cG,List.map_append,List.append_assoc]
 rw [bI,bI,e2,e3]
 exact this
end
abbrev HS:=List Int×List Int×Nat
structure qT (h:HS):Prop where
 s:h.1.length=8
 part:h.2.1.length=64
 n:h.2.2<64
def uW (h:HS) (l:List Int):Nat:=min l.length (64-h.2.2)
def oD (h:HS) (l:List Int):List Int:=cG h.2.1 h.2.2 (l.take (uW h l))
def jq (h:HS) (l:List Int):HS:=if h.2.2+uW h l=64 then (dA h.1 (oD h l),oD h l,0) else (h.1,oD h l,h.2.2+uW h l)
def Jv:Nat->HS->List Int->HS
 | 0,h,_=>h
 | f+1,h,l=>if l.length=0 then h else Jv f (jq h l) (l.drop (uW h l))
def mq (h:HS) (l:List Int):HS:=Jv l.length h l
theorem cL {h:HS}(ok:qT h) (l:List Int):(oD h l).length=64:=by
 have h1:=ok.part;have h2:=ok.n
 refine A9 h1 ?_
 rw [List.length_take]
 unfold uW
 omega
theorem jH {h:HS}(ok:qT h) (l:List Int):qT (jq h l):=by
 unfold jq
 split
 ·exact⟨dR ok.s _,cL ok l,by show(0:Nat)<64;omega⟩
 ·rename_i hn
  refine⟨ok.s,cL ok l,?_⟩
  show h.2.2+uW h l<64
  have h2:=ok.n
  have:uW h l<=64-h.2.2:=Nat.min_le_right _ _
  omega
theorem yZ:∀ (f g:Nat) (h:HS) (l:List Int),qT h->l.length<=f->l.length<=g->Jv f h l=Jv g h l
 | 0,0,_,_,_,_,_=>rfl
 | 0,g+1,h,l,ok,hf,_=>by
  have h0:l.length=0:=za
  rw [Jv,Jv,if_pos h0]
 | f+1,0,h,l,ok,_,hg=>by
  have h0:l.length=0:=za
  rw [Jv,Jv,if_pos h0]
 | f+1,g+1,h,l,ok,hf,hg=>by
  rw [Jv,Jv]
  by_cases h0:l.length=0
  ·rw [if_pos h0,if_pos h0]
  ·rw [if_neg h0,if_neg h0]
   have hk:1<=uW h l:=by unfold uW;have:=ok.n;omega
   exact yZ f g _ _ (jH ok l) zM zM
theorem vZ {h:HS}(ok:qT h){l:List Int}(hl:0<l.length):mq h l=mq (jq h l) (l.drop (uW h l)):=by
 have hk:1<=uW h l:=by unfold uW;have:=ok.n;omega
 unfold mq
 obtain⟨f,hf⟩:∃ f,l.length=f+1:=⟨l.length-1,za⟩
 rw [hf,Jv,if_neg za]
 exact yZ _ _ _ _ (jH ok l) zM (Nat.le_refl _)
theorem G3 {h:HS}{l:List Int}(hl:¬ 0<l.length):mq h l=h:=by
 unfold mq
 rw [show l.length=0 by omega]
 rfl
theorem gX {h:HS}(ok:qT h) (l:List Int):qT (mq h l):=by
 unfold mq
 generalize l.length=f
 induction f generalizing h l with
 | zero=>exact ok
 | succ f ih =>
  rw [Jv]
  split
  ·exact ok
  ·exact ih (jH ok l) _
theorem Mi {h:HS}(x:Int):mq h [x]=jq h [x]:=rfl
theorem sL {h:HS}(ok:qT h) (x:Int):(mq h [x]).2.2=if h.2.2+1=64 then 0 else h.2.2+1:=by
 have hn:=ok.n
 have hk:uW h [x]=1:=by unfold uW;simp only [List.length_cons,List.length_nil];omega
 rw [Mi,jq,hk]
 split<;>rfl
def NT:Nat->HS->HS
 | 0,h=>h
 | f+1,h=>NT f (mq h [0])
def pad (h:HS):HS:=NT ((120-h.2.2) % 64) h
theorem Kf {h:HS}(ok:qT h) (hn:h.2.2≠56):pad (mq h [0])=pad h:=by
 have h1:=sL ok 0
 have h2:=ok.n
 unfold pad
 rw [h1]
 have e:(120-h.2.2) % 64=(120-(if h.2.2+1=64 then 0 else h.2.2+1)) % 64+1:=by split<;>omega
 rw [e]
 rfl
theorem Kg {h:HS}(ok:qT h) (hn:h.2.2≠56):(120-(mq h [0]).2.2) % 64<(120-h.2.2) % 64:=by
 have h1:=sL ok 0
 have h2:=ok.n
 rw [h1]
 split<;>omega
theorem Mj {h:HS}(hn:h.2.2=56):pad h=h:=by unfold pad;rw [hn];rfl
theorem Iz (s part:List Int) (n all:Int):(Value.cells (.agg (bI s part n all))).toList.all qZ=true:=by
 show(jB s part n all).all qZ=true
 rw [List.all_eq_true]
 intro u hu
 simp only [jB,List.mem_append,List.mem_map,List.mem_cons,List.not_mem_nil,or_false] at hu
 rcases hu with(⟨x,-,rfl⟩|⟨x,-,rfl⟩)|(rfl|rfl)<;>rfl
theorem FE {s part:List Int}{n all:Int}(h8:s.length=8) (h64:part.length=64):(bI s part n all).extract 0 (0+(bI s part n all).size)=bI s part n all:=by
 rw [Nat.zero_add,Array.extract_size]
theorem Mk {l ys:List Int}{a:Nat}(h:a+ys.length<=l.length):aV (aA aD l) a (ys.flatMap λx=>(aD x).toList)=aA aD (cG l a ys):=by
 have e1:l=l.take a++(l.drop a).take ys.length++l.drop (a+ys.length):=by
  rw [List.append_assoc,<- List.drop_drop,List.take_append_drop,List.take_append_drop]
 have:=iS (ys.map (Value.int .u8)) ((l.take a).map (Value.int .u8)) (((l.drop a).take ys.length).map (Value.int .u8)) ((l.drop (a+ys.length)).map (Value.int .u8)) (by simp only [List.length_map,List.length_take,List.length_drop];omega)
 rw [show((l.take a).map (Value.int .u8)).length=a by simp only [List.length_map,List.length_take];omega] at this
 rw [oC,qy,qy]
 have e2:l.map (Value.int .u8)=(l.take a).map (Value.int .u8)++((l.drop a).take ys.length).map (Value.int .u8)++(l.drop (a+ys.length)).map (Value.int .u8):=by
  conv=>lhs;rw [e1]
  simp only [List.map_append]
 have e3:(cG l a ys).map (Value.int .u8)=(l.take a).map (Value.int .u8)++ys.map (Value.int .u8)++(l.drop (a+ys.length)).map (Value.int .u8):=by
  simp only [cG,List.map_append]
 rw [e2,e3]
 exact this
theorem zR {l ys:List Int}{a:Nat}(h:a+ys.length<=l.length):(cG l a ys).length=l.length:=by
 simp only [cG,List.length_append,List.length_take,List.length_drop];omega
end Go.Proofs.YthfpmlpoiocfdaaGreatDoor
namespace Go.Proofs.YthfpmlpoiocfdaaGreatDoor
open Go.RowKit Go.Sx
set_option linter.unusedVariables false
set_option linter.unusedSimpArgs false
set_option linter.unnecessarySimpa false
set_option maxRecDepth 100000
section
variable {w0 w : World} {L : List bA}
theorem pD {s part:List Int}{n all:Int}(h8:s.length=8) (h64:part.length=64){m:Nat}(h:m<=74):m<=(bI s part n all).size:=by rw [kY h8 h64];exact h
theorem lA {h:Nat}{ad0:Option Addr}{c0:Nat}s0 p0 n0 all l (hk0:qT (s0,p0,n0)) (hcap:l.length<=c0) (hln:l.length<=1000000000000) (hT:∀ w,St w0 L w->kA w) (hr:Rw w0 L aD 1 0 ad0 l) (hs:St w0 (aB h (bI s0 p0 n0 all) 395::L) w):Cs Tryz.prog 230 #[zP h 0,.slice ad0 l.length c0] w λrv w'=>rv=.tuple #[]/\St w0 (aB h (bI ((mq (s0,p0,n0) l).1) ((mq (s0,p0,n0) l).2.1) ((mq (s0,p0,n0) l).2.2:Nat) (IntKind.u64.wrap (all+(IntKind.u64.wrap (l.length:Nat))))) 395::L) w':=by
 refine dF Tryz.func230 Tryz.ntmps230 (En (Ls (Lq (LF (Lk (Lt (Ls (Dz (dZ [10] (Hg 3 (.gen [.int .u64 all]) [.cell ⟨h,73,none⟩ (.int .u64 all)] (bE (hs.cell 0 rfl (Da hk0.s hk0.part)) aR) Hz) (aL.store rfl rfl zk (b:=h) (off:=73) (v:=.int .u64 (IntKind.u64.wrap (all+(IntKind.u64.wrap (l.length:Nat))))) zk zk (ti:=Tryz.t36) zk hs 0 rfl zk zk (pD hk0.s hk0.part (Nat.le_of_ble_eq_true zk)) (cs':=bI s0 p0 (n0:Nat) (IntKind.u64.wrap (all+(IntKind.u64.wrap (l.length:Nat))))) (L':=(aB h (bI s0 p0 (n0:Nat) (IntKind.u64.wrap (all+(IntKind.u64.wrap (l.length:Nat))))) 395)::L) (rF hk0.s hk0.part _) rfl λw1 a6=>Lo (Ld (Lt (Lb (Dz (aX.loop (T:=(List Int)×(List Int)×Nat×(Option Addr)×Nat×(List Int)) (λgg=>[(0,zP h 0),(1,.slice gg.2.2.2.1 gg.2.2.2.2.2.length gg.2.2.2.2.1)]) (λgg w=>(qT (gg.1,gg.2.1,gg.2.2.1)/\gg.2.2.2.2.2.length<=gg.2.2.2.2.1/\mq (gg.1,gg.2.1,gg.2.2.1) gg.2.2.2.2.2=mq (s0,p0,n0) l/\(∀ w,St w0 L w->aC w gg.2.2.2.1 gg.2.2.2.2.2.length 1 (λk=>aD (gg.2.2.2.2.2.getD k 0))))/\St w0 (aB h (bI gg.1 gg.2.1 (gg.2.2.1:Nat) (IntKind.u64.wrap (all+(IntKind.u64.wrap (l.length:Nat))))) 395::L) w) (λgg=>gg.2.2.2.2.2.length) (s0,p0,n0,ad0,c0,l) [0,1] zk ⟨⟨hk0,hcap,rfl,hr⟩,a6⟩ ?_)))))))))))))))
 rintro⟨s,part,n,ad,c,r⟩ w3 ⟨hp,a1⟩
 dsimp only at hp a1
 obtain⟨ok,hrc,heq,hrow⟩:=hp
 have hn:n<64:=ok.n
 refine En (Ls (Lq (Dz (Zi ((r.length:Int)>0) (λa7=>?_) (λa7=>?_)))))
 ·have z:0<r.length:=za
  refine Zk (Zt (Zb (Zs (ZD (gE [0,1,2,3,4,5,6,7,8] (.ef 9 (.rd 10 .done))) a1 λw7 a2 b2=>Zj (Hg 6 (.gen [.int .i64 (n:Nat)]) [.cell ⟨h,72,none⟩ (.int .i64 (n:Nat))] (bE (a2.cell 0 rfl (A8 ok.s ok.part)) aR) (Hg 7 (.dH (zL h (8+(n*1)) (64-n) (64-n)) (.sub n 64)) [.prop ((n:Int)=(n:Int)),.prop (((some (Operand.tmp 26))=none->(n:Nat)=0)/\((none:Option Operand)=none->(64:Nat)=64)/\(n:Nat)<=64/\(64:Nat)<=64),.prop (Value.slice (some (if 64=n then Addr.mk h 8 none else (Addr.mk h 8 none).add (n*1))) (64-n) (64-n)=Value.slice (some ⟨h,8+(n*1),none⟩) (64-n) (64-n))] (aJ za (aJ ⟨(by first|(intro _;rfl)|(intro hc;cases hc)),(by first|(intro _;rfl)|(intro hc;cases hc)),za,za⟩ (aJ (AZ za za) aR))) Hz)) (aL.copy rfl zk Rs aF (b:=h) (off:=8+(n*1)) (dLen:=64-n) (dCap:=(64-n)) (ys:=r) (adx:=ad) (cx:=c) (0:Int) zk a2 ((λw h=>hrow w (h.drop 1)) _ a2) (by rw [kY ok.s ok.part];omega) (cs':=bI s (cG part n (r.take (min r.length (64-n)))) (n:Nat) (IntKind.u64.wrap (all+(IntKind.u64.wrap (l.length:Nat))))) (by rw [Nat.mul_one];exact Ke ok.s ok.part zK) λb3 a5=>Lz (Ls (Dz (dE (Hg 2 (.dH (.slice (ja ad c (min r.length (64-n)) 1) ((r.drop (min r.length (64-n))).length) (c-(min r.length (64-n)))) (.sub (min r.length (64-n)) r.length)) [.prop (((min r.length (64-n):Nat):Int)=(((min r.length (64-n)):Nat):Int)),.prop ((some (Operand.tmp 31)=none->((min r.length (64-n)):Nat)=0)/\((none:Option Operand)=none->(r.length:Nat)=r.length)/\((min r.length (64-n)):Nat)<=r.length/\(r.length:Nat)<=c),.prop (Value.slice (if c=(min r.length (64-n)) then ad else (ad:Option Addr).map (λa=>a.add ((min r.length (64-n))*1))) (r.length-(min r.length (64-n))) (c-(min r.length (64-n)))=Value.slice (ja ad c (min r.length (64-n)) 1) ((r.drop (min r.length (64-n))).length) (c-(min r.length (64-n))))] (aJ za (aJ ⟨(by first|(intro _;rfl)|(intro hc;cases hc)),(by first|(intro _;rfl)|(intro hc;cases hc)),za,za⟩ (aJ (M7 zE) aR))) Hz) (Zt (Zs (dZ [8] (Hg 3 (.gen [.int .i64 (n:Nat)]) [.cell ⟨h,72,none⟩ (.int .i64 (n:Nat))] (bE (a5.cell 0 rfl (A8 ok.s (cL ok r))) aR) (eT 5 ((n:Nat)+(min r.length (64-n):Nat)) Hz)) (aL.store rfl rfl zk (b:=h) (off:=72) (v:=.int .i64 ((n:Nat)+(min r.length (64-n):Nat))) zk zk (ti:=Tryz.t3) zk a5 0 rfl zk zk (pD ok.s (cL ok r) (Nat.le_of_ble_eq_true zk)) (cs':=bI s (cG part n (r.take (min r.length (64-n)))) ((n:Nat)+(min r.length (64-n):Nat)) (IntKind.u64.wrap (all+(IntKind.u64.wrap (l.length:Nat))))) (L':=(aB h (bI s (cG part n (r.take (min r.length (64-n)))) ((n:Nat)+(min r.length (64-n):Nat)) (IntKind.u64.wrap (all+(IntKind.u64.wrap (l.length:Nat))))) 395)::L) (Nb ok.s (cL ok r) _) rfl λb4 a0=>Lo (Ld (Lt (Ls (Dz (dE (Hg 3 (.gen [.int .i64 ((n:Nat)+(min r.length (64-n):Nat))]) [.cell ⟨h,72,none⟩ (.int .i64 ((n:Nat)+(min r.length (64-n):Nat)))] (bE (a0.cell 0 rfl (A8 ok.s (cL ok r))) aR) Hz) (Zt (eZ (t:=(((n:Nat)+(min r.length (64-n):Nat)):Int) == 64) (λa3=>?_) (λa3=>?_))))))))))))))))))))
  ·have a8:=kr a3
   refine ZD (gE [0,1,2,3,4,5,6,7,8,9] (.ef 10 (gE [11,12] (.ef 13 (gE [14,15] (.ef 16 .done)))))) a0 λb5 a4 b6=>Zj (Hg 5 (.agg (aA aY s)) [.prop (Array.size (aA aY s)=8),.cells ⟨h,0,none⟩ (aA aY s)] (aJ (bS bB (show(s).length=8 from ok.s) rfl) (iN (a4.cells 0 0 rfl (Kd ok.s (cL ok r))) aR)) (Hg 9 (.agg (aA aD (cG part n (r.take (min r.length (64-n)))))) [.prop (Array.size (aA aD (cG part n (r.take (min r.length (64-n)))))=64),.cells ⟨h,8,none⟩ (aA aD (cG part n (r.take (min r.length (64-n)))))] (aJ (bS aF (show(cG part n (r.take (min r.length (64-n)))).length=64 from(cL ok r)) rfl) (iN (a4.cells 0 8 rfl (Ix ok.s (cL ok r))) aR)) Hz)) (CH (FD s (cG part n (r.take (min r.length (64-n)))) ok.s (cL ok r) (λw h=>hT w (h.drop 1)) a4) λb9 a9=>Lo (Lw (aL.store rfl rfl zk (b:=h) (off:=0) (v:=.agg (aA aY (dA s (cG part n (r.take (min r.length (64-n))))))) zk zk (ti:=Tryz.t306) zk a9 0 rfl (cR bB (show(dA s (cG part n (r.take (min r.length (64-n))))).length=8 from(dR ok.s _)) zk) (eO bB) (by rw [Nat.zero_add,cR bB (show(dA s (cG part n (r.take (min r.length (64-n))))).length=8 from(dR ok.s _)) (m:=8) rfl];exact pD ok.s (cL ok r) zb) (cs':=bI (dA s (cG part n (r.take (min r.length (64-n))))) (cG part n (r.take (min r.length (64-n)))) ((n:Nat)+(min r.length (64-n):Nat)) (IntKind.u64.wrap (all+(IntKind.u64.wrap (l.length:Nat))))) (L':=(aB h (bI (dA s (cG part n (r.take (min r.length (64-n))))) (cG part n (r.take (min r.length (64-n)))) ((n:Nat)+(min r.length (64-n):Nat)) (IntKind.u64.wrap (all+(IntKind.u64.wrap (l.length:Nat))))) 395)::L) (OQ ok.s (cL ok r) (show(dA s (cG part n (r.take (min r.length (64-n))))).length=8 from(dR ok.s _))) rfl λc1 b0=>Lo (Lw (aL.store rfl rfl zk (b:=h) (off:=72) (v:=.int .i64 0) zk zk (ti:=Tryz.t3) zk b0 0 rfl zk zk (pD (dR ok.s _) (cL ok r) (Nat.le_of_ble_eq_true zk)) (cs':=bI (dA s (cG part n (r.take (min r.length (64-n))))) (cG part n (r.take (min r.length (64-n)))) 0 (IntKind.u64.wrap (all+(IntKind.u64.wrap (l.length:Nat))))) (L':=(aB h (bI (dA s (cG part n (r.take (min r.length (64-n))))) (cG part n (r.take (min r.length (64-n)))) 0 (IntKind.u64.wrap (all+(IntKind.u64.wrap (l.length:Nat))))) 395)::L) (Nb (dR ok.s _) (cL ok r) _) rfl λc2 b1=>Lo (Ld (Lm (Dz ?_))))))))
   have hst:jq (s,part,n) r=(dA s (cG part n (r.take (min r.length (64-n)))),cG part n (r.take (min r.length (64-n))),0):=by unfold jq oD uW;exact if_pos (by show n+min r.length (64-n)=64;omega)
   exact aS.back (dA s (cG part n (r.take (min r.length (64-n)))),cG part n (r.take (min r.length (64-n))),0,ja ad c (min r.length (64-n)) 1,c-(min r.length (64-n)),r.drop (min r.length (64-n))) [0,1] zk (by show(r.drop (min r.length (64-n))).length<r.length;show(List.drop _ r).length<_;rw [List.length_drop];omega) ⟨⟨(by have u:=jH ok r;rw [hst] at u;exact u),(by show(List.drop _ r).length<=c-min r.length (64-n);rw [List.length_drop];omega),(by rw [<- heq,vZ ok z,hst];rfl),λw h=>aC.JO (hrow w h) hrc za⟩,b1⟩
  ·have a8:=lf a3
   refine Zk (Zm ?_)
   rw [<- Int.natCast_add] at a0
   have hst:jq (s,part,n) r=(s,cG part n (r.take (min r.length (64-n))),n+(min r.length (64-n))):=by unfold jq oD uW;exact if_neg (by show ¬ n+min r.length (64-n)=64;omega)
   exact aS.back (s,cG part n (r.take (min r.length (64-n))),n+(min r.length (64-n)),ja ad c (min r.length (64-n)) 1,c-(min r.length (64-n)),r.drop (min r.length (64-n))) [0,1] zk (by show(r.drop (min r.length (64-n))).length<r.length;show(List.drop _ r).length<_;rw [List.length_drop];omega) ⟨⟨(by have u:=jH ok r;rw [hst] at u;exact u),(by show(List.drop _ r).length<=c-min r.length (64-n);rw [List.length_drop];omega),(by rw [<- heq,vZ ok z,hst];rfl),λw h=>aC.JO (hrow w h) hrc za⟩,a0⟩
 ·have z:¬ 0<r.length:=za
  refine Zx (aS.eQ (aS.eR (aS.kI (aS.done (.inr rfl) (λa hf=>results0 rfl a hf) ?_))))
  have hfin:(s,part,n)=mq (s0,p0,n0) l:=by rw [<- heq,G3 z]
  exact⟨rfl,by rw [<- hfin];exact a1⟩
end
section
variable {w0 w : World} {L : List bA}
def kC:List Int:=[1779033703,3144134277,1013904242,2773480762,1359893119,2600822924,528734635,1541459225]
def Db:HS:=(kC,List.replicate 64 0,0)
theorem fB:qT Db:=⟨rfl,rfl,by show(0:Nat)<64;omega⟩
theorem yk (hs:St w0 L w):Cs Tryz.prog 284 #[] w λrv w'=>rv=.agg QN/\St w0 L w':=by
 exact dF Tryz.func284 Tryz.ntmps284 (En (Ls (Lg [0] (Dz (tW vz hs λb1 w2 z=>Lo (Ld (Lt (Ls (Lg [1] (Lw (Zu 0 0 QN z λw4 u=>Lo (Ld (Lt (Le (Dz (CI 0 u ⟨rfl,u.dr 1⟩))))))))))))))))
theorem uf (hs:St w0 L w):Cs Tryz.prog 229 #[] w λrv w'=>∃ h,rv=zP h 0/\St w0 (aB h (bI kC (List.replicate 64 0) (0:Nat) 0) 395::L) w':=by
 refine dF Tryz.func229 Tryz.ntmps229 (En (Lq (Ls (Lg [0,2] (Dz (CH (yk hs) λw3 z=>Lo (Lw (mT #[.int .u32 1779033703,.int .u32 3144134277,.int .u32 1013904242,.int .u32 2773480762,.int .u32 1359893119,.int .u32 2600822924,.int .u32 528734635,.int .u32 1541459225,.int .u8 0,.int .u8 0,.int .u8 0,.int .u8 0,.int .u8 0,.int .u8 0,.int .u8 0,.int .u8 0,.int .u8 0,.int .u8 0,.int .u8 0,.int .u8 0,.int .u8 0,.int .u8 0,.int .u8 0,.int .u8 0,.int .u8 0,.int .u8 0,.int .u8 0,.int .u8 0,.int .u8 0,.int .u8 0,.int .u8 0,.int .u8 0,.int .u8 0,.int .u8 0,.int .u8 0,.int .u8 0,.int .u8 0,.int .u8 0,.int .u8 0,.int .u8 0,.int .u8 0,.int .u8 0,.int .u8 0,.int .u8 0,.int .u8 0,.int .u8 0,.int .u8 0,.int .u8 0,.int .u8 0,.int .u8 0,.int .u8 0,.int .u8 0,.int .u8 0,.int .u8 0,.int .u8 0,.int .u8 0,.int .u8 0,.int .u8 0,.int .u8 0,.int .u8 0,.int .u8 0,.int .u8 0,.int .u8 0,.int .u8 0,.int .u8 0,.int .u8 0,.int .u8 0,.int .u8 0,.int .u8 0,.int .u8 0,.int .u8 0,.int .u8 0,.int .i64 0,.int .u64 0] z λu w5 a0=>Lz (Le (Dz (bY (v:=zP u 0) ?_)))))))))))
 have a1:St w0 (aB u (bI kC (List.replicate 64 0) (0:Nat) 0) 395::L) w5:=Eq.mp zk a0
 exact⟨u,rfl,a1⟩
end
section
variable {w0 w : World} {L : List bA} {ad : Option Addr} {c : Nat}
def FF (n:Int) (j:Nat):Int:=IntKind.u8.wrap (aW .u64 n (8*(7-(j:Int))))
def FG (n:Int) (y:Nat) (h:HS):HS:=iter (λj g=>mq g [FF n j]) y h
theorem zS (n:Int) (y:Nat) (h:HS):FG n (y+1) h=mq (FG n y h) [FF n y]:=rfl
def Dc (x:Int):List Int:=[IntKind.u8.wrap (aW .u32 x 24),IntKind.u8.wrap (aW .u32 x 16),IntKind.u8.wrap (aW .u32 x 8),IntKind.u8.wrap x]
def ym (s:List Int) (k:Nat):List Int:=iter (λi l=>cG l (4*i) (Dc (s.getD i 0))) k (List.replicate 32 0)
theorem sM (s:List Int) (k:Nat):ym s (k+1)=cG (ym s k) (4*k) (Dc (s.getD k 0)):=rfl
def rG (h:HS) (all:Int):List Int:=ym (FG (IntKind.u64.wrap (all*8)) 8 (pad (mq h [(128:Int)]))).1 8
theorem ij (s:List Int):∀ k,k<=8->(ym s k).length=32
 | 0,_=>rfl
 | k+1,h=>by
  have ih:=ij s k za
  rw [sM,zR (by rw [ih];simp only [Dc,List.length_cons,List.length_nil];omega),ih]
theorem Ba {h:Nat}s0 p0 n0 all (hk0:qT (s0,p0,n0)) (hT:∀ w,St w0 L w->kA w) (hs:St w0 (aB h (bI s0 p0 n0 all) 395::L) w):Cs Tryz.prog 231 #[zP h 0] w λrv w'=>rv=.agg (aA aD (rG (s0,p0,n0) all))/\St w0 (aB h (bI s0 p0 (n0:Nat) all) 395::L) w':=by
 refine enter (args:=[zP h 0]) Tryz.func231 rfl Tryz.ntmps231 (Nat.le_of_ble_eq_true zk) (Zn [(0,zP h 0)] (Zs (eV (.ef 0 .done) (tW ko hs λb1 w2 b3=>⟨gS,Zd (Zt (Zs (eV (.ef 0 (.rd 1 .done)) (dJ (f:=229) (args:=#[]) Tryz.call229 (uf b3) ?_))))⟩))))
 rintro v6 w7 ⟨h4,rfl,a8⟩
 refine⟨gS,Zr 1 1 [] (Zd (Zt (Zs (Zs (eV (.rd 0 (.rd 1 .done)) (Zr 0 2 [] (Zd (Zt (Re (eV (.rd 0 (.rd 1 (.rd 2 (.rd 3 (.rd 4 (.ef 5 .done)))))) (Zp 0 5 [(3,.agg (bI s0 p0 (n0:Nat) all))] [(3,[.prop (Array.size (bI s0 p0 (n0:Nat) all)=74),.cells ⟨h,0,none⟩ (bI s0 p0 (n0:Nat) all)])] (ak (aJ (kY (show s0.length=8 from hk0.s) (show p0.length=64 from hk0.part)) (iN (a8.cells 2 0 rfl (FE (show s0.length=8 from hk0.s) (show p0.length=64 from hk0.part))) aR)) iF) (aL.store rfl rfl zk (b:=h4) (off:=0) (v:=.agg (bI s0 p0 (n0:Nat) all)) zk zk (ti:=Tryz.t395) zk a8 0 rfl (kY (show s0.length=8 from hk0.s) (show p0.length=64 from hk0.part)) (Iz _ _ _ _) (by show 0+(bI _ _ _ _).size<=_;rw [kY (show s0.length=8 from hk0.s) (show p0.length=64 from hk0.part),kY (show kC.length=8 from fB.s) (show(List.replicate 64 0).length=64 from fB.part)];omega) (cs':=bI s0 p0 (n0:Nat) all) (L':=(aB h4 (bI s0 p0 (n0:Nat) all) 395)::aB b1 ko 39::aB h (bI s0 p0 (n0:Nat) all) 395::L) (Iy (show kC.length=8 from fB.s) (show(List.replicate 64 0).length=64 from fB.part) (show s0.length=8 from hk0.s) (show p0.length=64 from hk0.part)) rfl λw8 a9=>⟨gS,Zd (Zt (Zs (eV (.rd 0 (.rd 1 (.rd 2 (.rd 3 (.rd 4 (.rd 5 .done)))))) (Zp 0 6 [(3,.gen [.int .u64 all])] [(3,[.cell ⟨h4,73,none⟩ (.int .u64 all)])] (ak (bE (a9.cell 0 rfl (Da (show s0.length=8 from hk0.s) (show p0.length=64 from hk0.part))) aR) iF) (Zd (Zt (Zs (eV (.rd 0 (.ef 1 (.ef 2 .done))) (Zr 0 1 [] (CB Rs aF [(128:Int)] a9 λb4 e7 b5=>⟨gS,dJ (f:=230) (args:=#[zP h4 0,zL b4 0 (([(128:Int)]).length) 1]) Tryz.call230 (lA s0 p0 n0 all ([(128:Int)]) (by first|exact hk0|exact fB|exact hpa.1|exact hpb.2.2.1|exact gX hk0 _|exact gX fB _|exact gX hpa.1 _|exact gX hpb.2.2.1 _) (Nat.le_refl _) zN (λw h=>hT w (h.drop 3)) (λw h=>h.rows 0 rfl aF.size _) (b5.pl 1)) ?_⟩))))))))))⟩))))))))))))⟩
 rintro e8 e9 ⟨rfl,b7⟩
 refine⟨gS,Zd (Zt (Zs (Zb ?_)))⟩
 have b9:=(((b7.pl 3).pl 3).pl 2).pl 3
 refine aX.loop (T:=HS×Int) (λgg=>[(2,zP b1 0),(3,zP h4 0),(4,.int .u64 (IntKind.u64.wrap (all*8)))]) (λgg w=>(qT gg.1/\pad gg.1=pad (mq (s0,p0,n0) [(128:Int)]))/\St w0 (aB h4 (bI gg.1.1 gg.1.2.1 (gg.1.2.2:Nat) gg.2) 395::aB b1 ko 39::aB h (bI s0 p0 (n0:Nat) all) 395::L) w) (λgg=>(120-gg.1.2.2) % 64) ((mq (s0,p0,n0) ([(128:Int)])),(IntKind.u64.wrap (all+(IntKind.u64.wrap (([(128:Int)]).length:Nat))))) [2,3,4] zk ⟨⟨gX hk0 _,rfl⟩,b9.dr 1⟩ ?_
 rintro⟨g1,a3⟩ f0 ⟨hpa,a0⟩
 dsimp only at hpa a0
 refine Zs (Zs (eV (.rd 0 (.rd 1 (.rd 2 (.rd 3 (.rd 4 .done))))) (Zp 0 5 [(3,.gen [.int .i64 (g1.2.2:Nat)])] [(3,[.cell ⟨h4,72,none⟩ (.int .i64 (g1.2.2:Nat))])] (ak (bE (a0.cell 0 rfl (A8 (show g1.1.length=8 from hpa.1.s) (show g1.2.1.length=64 from hpa.1.part))) aR) iF) (Zd (Zt (eZ (t:=(g1.2.2:Int) != 56) (λa4=>?_) (λa4=>?_)))))))
 ·have c1:=E2 a4
  refine Zk (Zt (Zb (eV (.rd 0 (.ef 1 (.ef 2 .done))) (Zr 0 1 [] (CB Rs aF [(0:Int)] a0 λc2 f1 c3=>⟨gS,dJ (f:=230) (args:=#[zP h4 0,zL c2 0 (([(0:Int)]).length) 1]) Tryz.call230 (lA g1.1 g1.2.1 g1.2.2 a3 ([(0:Int)]) (by first|exact hk0|exact fB|exact hpa.1|exact hpb.2.2.1|exact gX hk0 _|exact gX fB _|exact gX hpa.1 _|exact gX hpb.2.2.1 _) (Nat.le_refl _) zN (λw h=>hT w (h.drop 3)) (λw h=>h.rows 0 rfl aF.size _) (c3.pl 1)) ?_⟩)))))
  rintro f2 f3 ⟨rfl,c5⟩
  refine⟨gS,Zd (Zm ?_)⟩
  have c6:=(((c5.pl 3).pl 3).pl 2).pl 3
  exact aS.back ((mq (g1.1,g1.2.1,g1.2.2) ([(0:Int)])),IntKind.u64.wrap (a3+(IntKind.u64.wrap (([(0:Int)]).length:Nat)))) [2,3,4] zk (by show(120-(mq (g1.1,g1.2.1,g1.2.2) ([(0:Int)])).2.2) % 64<(120-g1.2.2) % 64;exact Kg hpa.1 (by show g1.2.2≠56;omega)) ⟨⟨gX hpa.1 _,(Kf hpa.1 (by show g1.2.2≠56;omega)).trans hpa.2⟩,c6.dr 1⟩
 ·have c1:=E3 a4
  refine Zx (aS.eQ (aS.eR (aS.kI (Zt (Zs (Zs (eV (.rd 0 .done) (Zr 0 1 [] (Zd (Zt (Zb (aX.loop (T:=Nat×Int×HS×Int) (λgg=>[(2,zP b1 0),(3,zP h4 0),(4,.int .u64 (IntKind.u64.wrap (all*8))),(5,.int .i64 gg.2.1)]) (λgg w=>(gg.1<=8/\gg.2.1=7-(gg.1:Nat)/\qT gg.2.2.1/\gg.2.2.1=FG (IntKind.u64.wrap (all*8)) gg.1 (pad (mq (s0,p0,n0) [(128:Int)])))/\St w0 (aB h4 (bI gg.2.2.1.1 gg.2.2.1.2.1 (gg.2.2.1.2.2:Nat) gg.2.2.2) 395::aB b1 ko 39::aB h (bI s0 p0 (n0:Nat) all) 395::L) w) (λgg=>8-gg.1) (0,7,g1,a3) [2,3,4,5] zk ⟨⟨Nat.zero_le _,by first|omega|(simp only;omega),hpa.1,by rw [<- hpa.2,Mj za];rfl⟩,a0⟩ ?_))))))))))))
  rintro⟨y2,z,g2,a5⟩ c9 ⟨hpb,a1⟩
  dsimp only at hpb a1
  refine Zs (Zs (eV (.rd 0 (.rd 1 .done)) (Zr 0 2 [] (Zd (Zt (eZ (t:=decide ((z:Int) >= 0)) (λa6=>?_) (λa6=>?_)))))))
  ·have d1:=of_decide_eq_true a6
   refine Zk (Zt (Zs (Zb (eV (.rd 0 (.rd 1 (.rd 2 (.rd 3 (.rd 4 (.rd 5 (.ef 6 (.ef 7 .done)))))))) ?_))))
   refine Zp 0 6 [(3,.dH (.int .i64 (8*z)) (.gen [])),(4,.shift (aW .u64 (IntKind.u64.wrap (all*8)) (8*z)))] [(3,[.prop (Value.int .i64 (IntKind.i64.wrap (8*z))=Value.int .i64 (8*z))]),(4,[.prop ((0:Int)<=8*z/\Int.fdiv (IntKind.u64.wrap (all*8)) (2 ^ (min (Int.toNat (8*z)) (IntKind.bits .u64)))=aW .u64 (IntKind.u64.wrap (all*8)) (8*z))])] (ak (aJ (iD za za) aR) (ak (aJ ⟨(by first|omega|exact bK rfl _),rfl⟩ aR) iF)) (CB Rs aF [(IntKind.u8.wrap (aW .u64 (IntKind.u64.wrap (all*8)) (8*z)):Int)] a1 λd2 f4 d3=>⟨gS,dJ (f:=230) (args:=#[zP h4 0,zL d2 0 (([(IntKind.u8.wrap (aW .u64 (IntKind.u64.wrap (all*8)) (8*z)):Int)]).length) 1]) Tryz.call230 (lA g2.1 g2.2.1 g2.2.2 a5 ([(IntKind.u8.wrap (aW .u64 (IntKind.u64.wrap (all*8)) (8*z)):Int)]) (by first|exact hk0|exact fB|exact hpa.1|exact hpb.2.2.1|exact gX hk0 _|exact gX fB _|exact gX hpa.1 _|exact gX hpb.2.2.1 _) (Nat.le_refl _) zN (λw h=>hT w (h.drop 3)) (λw h=>h.rows 0 rfl aF.size _) (d3.pl 1)) ?_⟩)
   rintro f5 f6 ⟨rfl,d5⟩
   refine⟨gS,Zd (Zm (Zt (eV (.rd 0 (.rd 1 (.rd 2 .done))) (Zp 0 3 [(1,.dH (.int .i64 (z-1)) (.gen []))] [(1,[.prop (Value.int .i64 (IntKind.i64.wrap (z-1))=Value.int .i64 (z-1))])] (ak (aJ (iD za za) aR) iF) (Zd ?_)))))⟩
   have d6:=(((d5.pl 3).pl 3).pl 2).pl 3
   exact aS.back (y2+1,z-1,mq (g2.1,g2.2.1,g2.2.2) ([(IntKind.u8.wrap (aW .u64 (IntKind.u64.wrap (all*8)) (8*z)):Int)]),IntKind.u64.wrap (a5+(IntKind.u64.wrap (([(IntKind.u8.wrap (aW .u64 (IntKind.u64.wrap (all*8)) (8*z)):Int)]).length:Nat)))) [2,3,4,5] zk (by show 8-(y2+1)<8-y2;omega) ⟨⟨by first|omega|(simp only;omega),by first|omega|(simp only;omega),gX hpb.2.2.1 _,by show mq g2 _=FG _ (y2+1) _;rw [zS,<- hpb.2.2.2,FF,<- hpb.2.1]⟩,d6.dr 1⟩
  ·have d1:=of_decide_eq_false a6
   refine Zx (aS.eQ (aS.eR (aS.kI (Zt (Zs (Zs (eV (.rd 0 (.rd 1 (.rd 2 (.rd 3 (.rd 4 .done))))) (Zp 0 5 [(3,.agg (aA aY g2.1))] [(3,[.prop (Array.size (aA aY g2.1)=8),.cells ⟨h4,0,none⟩ (aA aY g2.1)])] (ak (aJ (bS bB (show(g2.1).length=8 from(show g2.1.length=8 from hpb.2.2.1.s)) rfl) (iN (a1.cells 0 0 rfl (Kd (show g2.1.length=8 from hpb.2.2.1.s) (show g2.2.1.length=64 from hpb.2.2.1.part))) aR)) iF) (Zd (Zt (Zb ?_)))))))))))
   have d8:St w0 (aB h4 (bI g2.1 g2.2.1 (g2.2.2:Nat) a5) 395::aB b1 (aA aD (List.replicate 32 0)) 39::aB h (bI s0 p0 (n0:Nat) all) 395::L) c9:=Eq.mp zk a1
   have f7:g2.1.length=8:=hpb.2.2.1.s
   refine aX.loop (T:=Nat×(List Int)) (λgg=>[(2,zP b1 0),(47,.agg (aA aY g2.1)),(48,.int .i64 (gg.1:Nat))]) (λgg w=>(gg.1<=8/\gg.2=ym g2.1 gg.1/\gg.2.length=32)/\St w0 (aB b1 (aA aD gg.2) 39::aB h (bI s0 p0 (n0:Nat) all) 395::L) w) (λgg=>8-gg.1) (0,(List.replicate 32 0)) [2,47,48] zk ⟨⟨Nat.zero_le _,rfl,rfl⟩,d8.dr 1⟩ ?_
   rintro⟨u,ol⟩ f8 ⟨hpc,a2⟩
   dsimp only at hpc a2
   refine Zs (eV (.rd 0 .done) (Zr 0 1 [] (Zd (Zt (Zs (eZ (t:=decide ((u:Int)<8)) (λa7=>?_) (λa7=>?_)))))))
   ·have e0:=of_decide_eq_true a7
    refine Zk (Zt (Zs (Zb (Zs (eV (.rd 0 (.rd 1 (.rd 2 (.rd 3 .done)))) ?_)))))
    refine Zp 0 4 [(1,.elem (.int .u32 (g2.1.getD u 0)))] [(1,[.prop (0<=(u:Int)/\(u:Int)<(8:Int)),.prop ((aA aY g2.1)[Int.toNat (u:Nat)*1]?=some (.int .u32 (g2.1.getD u 0)))])] (ak (aJ za (aJ (A0 (d:=(0:Int)) (k:=u) bB za zA zk) aR)) iF) (Zd (Zt (eV (.rd 0 (.rd 1 (.rd 2 (.rd 3 (.rd 4 (.rd 5 (.rd 6 (.rd 7 (.rd 8 (.rd 9 (.rd 10 (.rd 11 (.rd 12 (.rd 13 (.ef 14 (.ef 15 .done)))))))))))))))) (Zp 0 14 [(1,.dH (.int .i64 (4*(u:Nat))) (.gen [])),(2,.dH (zL b1 (0+((4*u)*1)) (32-(4*u)) (32-(4*u))) (.sub (4*u) 32)),(4,.shift (aW .u32 (g2.1.getD u 0) 24)),(7,.shift (aW .u32 (g2.1.getD u 0) 16)),(10,.shift (aW .u32 (g2.1.getD u 0) 8))] [(1,[.prop (Value.int .i64 (IntKind.i64.wrap (4*(u:Nat)))=Value.int .i64 (4*(u:Nat)))]),(2,[.prop ((4*(u:Nat):Int)=((4*u:Nat):Int)),.prop (((some (Operand.tmp 53))=none->(4*u:Nat)=0)/\((none:Option Operand)=none->(32:Nat)=32)/\(4*u:Nat)<=32/\(32:Nat)<=32),.prop (Value.slice (some (if 32=4*u then Addr.mk b1 0 none else (Addr.mk b1 0 none).add ((4*u)*1))) (32-(4*u)) (32-(4*u))=Value.slice (some ⟨b1,0+((4*u)*1),none⟩) (32-(4*u)) (32-(4*u)))]),(4,[.prop ((0:Int)<=24/\Int.fdiv (g2.1.getD u 0) (2 ^ (min (Int.toNat 24) (IntKind.bits .u32)))=aW .u32 (g2.1.getD u 0) 24)]),(7,[.prop ((0:Int)<=16/\Int.fdiv (g2.1.getD u 0) (2 ^ (min (Int.toNat 16) (IntKind.bits .u32)))=aW .u32 (g2.1.getD u 0) 16)]),(10,[.prop ((0:Int)<=8/\Int.fdiv (g2.1.getD u 0) (2 ^ (min (Int.toNat 8) (IntKind.bits .u32)))=aW .u32 (g2.1.getD u 0) 8)])] (ak (aJ (iD za za) aR) (ak (aJ za (aJ ⟨(by first|(intro _;rfl)|(intro hc;cases hc)),(by first|(intro _;rfl)|(intro hc;cases hc)),za,za⟩ (aJ (AZ za za) aR))) (ak (aJ ⟨(by first|omega|exact bK rfl _),rfl⟩ aR) (ak (aJ ⟨(by first|omega|exact bK rfl _),rfl⟩ aR) (ak (aJ ⟨(by first|omega|exact bK rfl _),rfl⟩ aR) iF))))) (CB Rs aF [(IntKind.u8.wrap (aW .u32 (g2.1.getD u 0) 24):Int),(IntKind.u8.wrap (aW .u32 (g2.1.getD u 0) 16):Int),(IntKind.u8.wrap (aW .u32 (g2.1.getD u 0) 8):Int),(IntKind.u8.wrap (g2.1.getD u 0):Int)] a2 λe1 f9 e2=>⟨gS,?_⟩)))))
    have b0:=e2.pl 1
    refine aL.copy rfl zk Rs aF (b:=b1) (off:=0+((4*u)*1)) (dLen:=32-(4*u)) (dCap:=(32-(4*u))) (ys:=[(IntKind.u8.wrap (aW .u32 (g2.1.getD u 0) 24):Int),(IntKind.u8.wrap (aW .u32 (g2.1.getD u 0) 16):Int),(IntKind.u8.wrap (aW .u32 (g2.1.getD u 0) 8):Int),(IntKind.u8.wrap (g2.1.getD u 0):Int)]) (adx:=some ⟨e1,0,none⟩) (cx:=4) (0:Int) zk b0 (b0.rows 1 rfl aF.size (0:Int)) (by rw [eI aF.size,Nat.zero_add,Nat.mul_one,Nat.mul_one,Nat.mul_one];simp only [List.length_cons,List.length_nil];omega) (cs':=aA aD (cG ol (4*u) (([(IntKind.u8.wrap (aW .u32 (g2.1.getD u 0) 24):Int),(IntKind.u8.wrap (aW .u32 (g2.1.getD u 0) 16):Int),(IntKind.u8.wrap (aW .u32 (g2.1.getD u 0) 8):Int),(IntKind.u8.wrap (g2.1.getD u 0):Int)]).take (min ([(IntKind.u8.wrap (aW .u32 (g2.1.getD u 0) 24):Int),(IntKind.u8.wrap (aW .u32 (g2.1.getD u 0) 16):Int),(IntKind.u8.wrap (aW .u32 (g2.1.getD u 0) 8):Int),(IntKind.u8.wrap (g2.1.getD u 0):Int)]).length (32-(4*u)))))) (by rw [Nat.zero_add,Nat.mul_one];exact Mk (by simp only [List.length_take,List.length_cons,List.length_nil];omega)) λg0 e3=>⟨gS,Zd (Zm (Zt (eV (.rd 0 (.rd 1 .done)) (Zp 0 2 [(0,.dH (.int .i64 ((u:Nat)+1)) (.gen []))] [(0,[.prop (Value.int .i64 (IntKind.i64.wrap ((u:Nat)+1))=Value.int .i64 ((u:Nat)+1))])] (ak (aJ (iD za za) aR) iF) (Zd ?_)))))⟩
    have e4:=((e3.pl 2).pl 1).pl 2
    exact aS.back (u+1,cG ol (4*u) (([(IntKind.u8.wrap (aW .u32 (g2.1.getD u 0) 24):Int),(IntKind.u8.wrap (aW .u32 (g2.1.getD u 0) 16):Int),(IntKind.u8.wrap (aW .u32 (g2.1.getD u 0) 8):Int),(IntKind.u8.wrap (g2.1.getD u 0):Int)]).take (min ([(IntKind.u8.wrap (aW .u32 (g2.1.getD u 0) 24):Int),(IntKind.u8.wrap (aW .u32 (g2.1.getD u 0) 16):Int),(IntKind.u8.wrap (aW .u32 (g2.1.getD u 0) 8):Int),(IntKind.u8.wrap (g2.1.getD u 0):Int)]).length (32-(4*u))))) [2,47,48] zk (by show 8-(u+1)<8-u;omega) ⟨⟨za,(by have h4:min 4 (32-4*u)=4:=za;rw [sM,<- hpc.2.1];show cG ol (4*u) (List.take (min 4 (32-4*u)) (Dc (g2.1.getD u 0)))=cG ol (4*u) (Dc (g2.1.getD u 0));rw [h4];rfl),by rw [zR];exact hpc.2.2;simp only [List.length_take,List.length_cons,List.length_nil];omega⟩,e4.dr 1⟩
   ·have e0:=of_decide_eq_false a7
    exact Zx (aS.eQ (aS.eR (aS.kI (Zt (Zs (eV (.rd 0 (.ef 1 .done)) (Zp 0 1 [(0,.agg (aA aD ol))] [(0,[.prop (Array.size (aA aD ol)=32),.cells ⟨b1,0,none⟩ (aA aD ol)])] (ak (aJ (bS aF (show(ol).length=32 from zc) rfl) (iN (a2.cells 0 0 rfl zw) aR)) iF) (aL.store rfl rfl zk (b:=b1) (off:=0) (v:=.agg (aA aD ol)) zk zk (ti:=Tryz.t39) zk a2 0 rfl (cR aF (show(ol).length=32 from zc) zk) (eO aF) (eC aF (show(ol).length=32 from zc) (by rw [bS aF (show(ol).length=32 from zc) (m:=32) rfl];rfl)) (cs':=aA aD ol) (L':=(aB b1 (aA aD ol) 39)::aB h (bI s0 p0 (n0:Nat) all) 395::L) (fA aF (show(ol).length=32 from zc) (by rw [bS aF (show(ol).length=32 from zc) (m:=32) rfl];rfl)) rfl λg5 b2=>⟨gS,Zd (Zt (Ze (aS.done (.inl rfl) (v:=.agg (aA aD ol)) (λa hf=>dS rfl zk (ti:=Tryz.t39) zk zk (vs:=aA aD ol) (bS aF (show(ol).length=32 from zc) zk) (b2.cells 0 0 rfl zw) a hf) ⟨(by rw [hpc.2.1,show u=8 by omega,hpb.2.2.2,show y2=8 by omega];rfl),b2.dr 1⟩)))⟩))))))))
def eX (l:List Int):List Int:=rG (mq Db l) (IntKind.u64.wrap (0+(IntKind.u64.wrap (l.length:Nat))))
theorem dL (l:List Int):(eX l).length=32:=ij _ 8 (Nat.le_refl _)
end
section
variable {w0 w : World} {L : List bA}
def je (l1 l2:List Int):Nat->HS
 | 0=>Db
 | 1=>mq Db l1
 | _=>mq (mq Db l1) l2
def yn (l1 l2:List Int):Nat->Int
 | 0=>0
 | 1=>IntKind.u64.wrap (0+(IntKind.u64.wrap (l1.length:Nat)))
 | _=>IntKind.u64.wrap ((IntKind.u64.wrap (0+(IntKind.u64.wrap (l1.length:Nat))))+(IntKind.u64.wrap (l2.length:Nat)))
def fR (l1 l2:List Int):List Int:=rG (je l1 l2 2) (yn l1 l2 2)
theorem cT (l1 l2:List Int):(fR l1 l2).length=32:=ij _ 8 (Nat.le_refl _)
theorem FH (l1 l2:List Int):∀ k,qT (je l1 l2 k)
 | 0=>fB
 | 1=>gX fB _
 | _+2=>gX (gX fB _) _
theorem sN {bs:Nat}{a1:Option Addr}{n1:Nat}{c1:Nat}{a2:Option Addr}{n2:Nat}{c2:Nat}l1 l2 (e1:l1.length=n1) (e2:l2.length=n2) (q1:l1.length<=c1) (q2:l2.length<=c2) (g1:l1.length<=1000000000) (g2:l2.length<=1000000000) (hTab:∀ w,St w0 L w->kA w) (hr1:Rw w0 L aD 1 0 a1 l1) (hr2:Rw w0 L aD 1 0 a2 l2) (hs:St w0 (aB bs #[.slice a1 n1 c1,.slice a2 n2 c2] 66::L) w):Cs Tryz.prog 172 #[zL bs 0 2 2] w λrv w'=>rv=.agg (aA aD (fR l1 l2))/\St w0 (aB bs #[.slice a1 n1 c1,.slice a2 n2 c2] 66::L) w':=by
 refine enter (args:=[zL bs 0 2 2]) Tryz.func172 rfl Tryz.ntmps172 (Nat.le_of_ble_eq_true zk) (Zn [(0,zL bs 0 2 2)] (Zs ?_))
 subst e1
 subst e2
 refine eV (.ef 0 .done) (tW ko hs λz w2 a7=>⟨gS,Zd (Zt (Zs (eV (.ef 0 (.rd 1 .done)) (dJ (f:=229) (args:=#[]) Tryz.call229 (uf a7) ?_))))⟩)
 rintro v6 w7 ⟨u,rfl,a8⟩
 refine⟨gS,Zr 1 1 [] (Zd (Zt (Zs (Zs (eV (.rd 0 (.rd 1 (.rd 2 .done))) (Zr 0 3 [] (Zd (Zt (Zb (aX.loop (T:=Nat) (λgg=>[(2,zP z 0),(3,zP u 0),(7,zL bs 0 2 2),(8,.int .i64 2),(9,.int .i64 (gg:Nat))]) (λgg w=>(gg<=2)/\St w0 (aB u (bI ((je l1 l2 gg).1) ((je l1 l2 gg).2.1) ((je l1 l2 gg).2.2:Nat) (yn l1 l2 gg)) 395::aB bs #[.slice a1 l1.length c1,.slice a2 l2.length c2] 66::aB z ko 39::L) w) (λgg=>2-gg) 0 [2,3,7,8,9] zk ⟨Nat.zero_le _,((a8.pl 1).pl 2).pl 2⟩ ?_))))))))))⟩
 rintro k w9 ⟨hp,a0⟩
 refine Zs (eV (.rd 0 .done) (Zr 0 1 [] (Zd (Zt (Zs (Zn [(10,.bool (decide ((k:Int)<2))),(2,zP z 0),(3,zP u 0),(7,zL bs 0 2 2),(8,.int .i64 2),(9,.int .i64 (k:Nat))] (eZ (t:=decide ((k:Int)<2)) (λa3=>?_) (λa3=>?_))))))))
 ·have b0:=of_decide_eq_true a3
  have hcs:k=0\/k=1:=za
  rcases hcs with rfl|rfl
  ·have a4:St w0 (aB u (bI ((je l1 l2 0).1) ((je l1 l2 0).2.1) ((je l1 l2 0).2.2:Nat) (yn l1 l2 0)) 395::aB bs #[.slice a1 l1.length c1,.slice a2 l2.length c2] 66::aB z ko 39::L) w9:=a0
   refine Zn [(10,.bool (decide (((0:Nat):Int)<2))),(2,zP z 0),(3,zP u 0),(7,zL bs 0 2 2),(8,.int .i64 2),(9,.int .i64 0)] (Zk (Zt (Zs (Zb (Zs (eV (.rd 0 (.rd 1 (.rd 2 .done))) (Zp 0 3 [(0,.dH (zP bs 0) .at_),(1,.gen [.slice a1 l1.length c1])] [(0,[.prop (0<=(0:Int)/\(0:Int)<(2:Int)),.prop (Value.pointer (some (Addr.add ⟨bs,0,none⟩ (Int.toNat 0*1)))=Value.pointer (some ⟨bs,0,none⟩))]),(1,[.cell ⟨bs,0,none⟩ (.slice a1 l1.length c1)])] (ak (aJ za (aJ (aU _ _ _) aR)) (ak (bE (a4.cell 1 rfl zk) aR) iF)) (Zd (Zt (eV (.rd 0 (.rd 1 (.ef 2 .done))) (Zr 0 2 [] (dJ (f:=230) (args:=#[zP u 0,.slice a1 l1.length c1]) Tryz.call230 (lA ((je l1 l2 0).1) ((je l1 l2 0).2.1) ((je l1 l2 0).2.2) (yn l1 l2 0) l1 (FH l1 l2 0) zc za (λw h=>hTab w (h.drop 2)) (λw h=>hr1 _ (h.drop 2)) a4) ?_))))))))))))
   rintro c6 b2 ⟨rfl,b3⟩
   refine⟨gS,Zd (Zm (Zt (eV (.rd 0 (.rd 1 .done)) (Zr 0 2 [] (Zd ?_)))))⟩
   have b4:St w0 (aB u (bI ((je l1 l2 1).1) ((je l1 l2 1).2.1) ((je l1 l2 1).2.2:Nat) (yn l1 l2 1)) 395::aB bs #[.slice a1 l1.length c1,.slice a2 l2.length c2] 66::aB z ko 39::L) b2:=b3
   exact aS.back 1 [2,3,7,8,9] zk zb ⟨za,b4⟩
  ·have a5:St w0 (aB u (bI ((je l1 l2 1).1) ((je l1 l2 1).2.1) ((je l1 l2 1).2.2:Nat) (yn l1 l2 1)) 395::aB bs #[.slice a1 l1.length c1,.slice a2 l2.length c2] 66::aB z ko 39::L) w9:=a0
   refine Zn [(10,.bool (decide (((1:Nat):Int)<2))),(2,zP z 0),(3,zP u 0),(7,zL bs 0 2 2),(8,.int .i64 2),(9,.int .i64 1)] (Zk (Zt (Zs (Zb (Zs (eV (.rd 0 (.rd 1 (.rd 2 .done))) (Zp 0 3 [(0,.dH (zP bs 1) .at_),(1,.gen [.slice a2 l2.length c2])] [(0,[.prop (0<=(1:Int)/\(1:Int)<(2:Int)),.prop (Value.pointer (some (Addr.add ⟨bs,0,none⟩ (Int.toNat 1*1)))=Value.pointer (some ⟨bs,1,none⟩))]),(1,[.cell ⟨bs,1,none⟩ (.slice a2 l2.length c2)])] (ak (aJ za (aJ (aU _ _ _) aR)) (ak (bE (a5.cell 1 rfl zk) aR) iF)) (Zd (Zt (eV (.rd 0 (.rd 1 (.ef 2 .done))) (Zr 0 2 [] (dJ (f:=230) (args:=#[zP u 0,.slice a2 l2.length c2]) Tryz.call230 (lA ((je l1 l2 1).1) ((je l1 l2 1).2.1) ((je l1 l2 1).2.2) (yn l1 l2 1) l2 (FH l1 l2 1) zc za (λw h=>hTab w (h.drop 2)) (λw h=>hr2 _ (h.drop 2)) a5) ?_))))))))))))
   rintro c7 b5 ⟨rfl,b6⟩
   refine⟨gS,Zd (Zm (Zt (eV (.rd 0 (.rd 1 .done)) (Zr 0 2 [] (Zd ?_)))))⟩
   have b7:St w0 (aB u (bI ((je l1 l2 2).1) ((je l1 l2 2).2.1) ((je l1 l2 2).2.2:Nat) (yn l1 l2 2)) 395::aB bs #[.slice a1 l1.length c1,.slice a2 l2.length c2] 66::aB z ko 39::L) b5:=b6
   exact aS.back 2 [2,3,7,8,9] zk zb ⟨za,b7⟩
 ·have b0:=of_decide_eq_false a3
  have b9:k=2:=za
  subst b9
  have c0:St w0 (aB u (bI ((je l1 l2 2).1) ((je l1 l2 2).2.1) ((je l1 l2 2).2.2:Nat) (yn l1 l2 2)) 395::aB bs #[.slice a1 l1.length c1,.slice a2 l2.length c2] 66::aB z ko 39::L) w9:=a0
  refine Zx (aS.eQ (aS.eR (aS.kI (Zt (Zs (eV (.rd 0 (.ef 1 (.ef 2 .done))) (Zr 0 1 [] (dJ (f:=231) (args:=#[zP u 0]) Tryz.call231 (Ba ((je l1 l2 2).1) ((je l1 l2 2).2.1) ((je l1 l2 2).2.2) (yn l1 l2 2) (FH l1 l2 2) (λw h=>hTab w (h.drop 2)) c0) ?_))))))))
  rintro c9 d1 ⟨rfl,c3⟩
  refine⟨gS,(aL.store rfl rfl zk (b:=z) (off:=0) (v:=.agg (aA aD (rG (((je l1 l2 2).1),(je l1 l2 2).2.1,((je l1 l2 2).2.2)) (yn l1 l2 2)))) zk zk (ti:=Tryz.t39) zk c3 2 rfl (cR aF (show(rG (((je l1 l2 2).1),(je l1 l2 2).2.1,((je l1 l2 2).2.2)) (yn l1 l2 2)).length=32 from(ij _ 8 (Nat.le_refl _))) zk) (eO aF) (eC aF (show(rG (((je l1 l2 2).1),(je l1 l2 2).2.1,((je l1 l2 2).2.2)) (yn l1 l2 2)).length=32 from(ij _ 8 (Nat.le_refl _))) zk) (cs':=aA aD (rG (((je l1 l2 2).1),(je l1 l2 2).2.1,((je l1 l2 2).2.2)) (yn l1 l2 2))) (L':=(aB u (bI ((je l1 l2 2).1) ((je l1 l2 2).2.1) (((je l1 l2 2).2.2):Nat) (yn l1 l2 2)) 395)::aB bs #[.slice a1 l1.length c1,.slice a2 l2.length c2] 66::aB z (aA aD (rG (((je l1 l2 2).1),(je l1 l2 2).2.1,((je l1 l2 2).2.2)) (yn l1 l2 2))) 39::L) (fA aF (show(rG (((je l1 l2 2).1),(je l1 l2 2).2.1,((je l1 l2 2).2.2)) (yn l1 l2 2)).length=32 from(ij _ 8 (Nat.le_refl _))) zk) rfl λd2 a6=>⟨gS,Zd (Zt (Ze (aS.done (.inl rfl) (v:=.agg (aA aD (rG (((je l1 l2 2).1),(je l1 l2 2).2.1,((je l1 l2 2).2.2)) (yn l1 l2 2)))) (λa hf=>dS rfl zk (ti:=Tryz.t39) zk zk (vs:=aA aD (rG (((je l1 l2 2).1),(je l1 l2 2).2.1,((je l1 l2 2).2.2)) (yn l1 l2 2))) (bS aF (show(rG (((je l1 l2 2).1),(je l1 l2 2).2.1,((je l1 l2 2).2.2)) (yn l1 l2 2)).length=32 from(ij _ 8 (Nat.le_refl _))) zk) (a6.cells 2 0 rfl zw) a hf) ?_)))⟩)⟩
  have c4:=((a6.pl 1).pl 2).pl 2
  exact⟨rfl,c4.dr 2⟩
end
section
variable {w0 w : World} {L : List bA}
def FI (key:List Int):List Int:=kz (List.replicate 64 (0:Int)) 0 (key.take (min key.length 64))
def mr (key:List Int) (bv:Int) (k:Nat):List Int:=iter (λj q=>q.set j (bX .u8 (q.getD j 0) bv)) k (FI key)
def cU (key:List Int) (bv:Int):List Int:=mr key bv 64
theorem oE (key:List Int) (bv:Int):∀ k,(mr key bv k).length=64
 | 0=>by
  show(FI key).length=64
  rw [FI,tZ zB,List.length_replicate]
 | k+1=>by
  show((mr key bv k).set k _).length=64
  rw [List.length_set]
  exact oE key bv k
theorem jW (key:List Int) (bv:Int):(cU key bv).length=64:=oE key bv 64
theorem ug {adk:Option Addr}{ck:Nat}key bv (hkl:key.length<=64) (hnk:adk=none->ck=0) (hr:Rw w0 L aD 1 0 adk key) (hs:St w0 L w):Cs Tryz.prog 173 #[.slice adk key.length ck,.int .u8 bv] w λrv w'=>∃ ob,rv=zL ob 0 64 64/\St w0 (aB ob (aA aD (cU key bv)) 5::L) w':=by
 refine enter (args:=[.slice adk key.length ck,.int .u8 bv]) Tryz.func173 rfl Tryz.ntmps173 (Nat.le_of_ble_eq_true zk) (Zn [(0,.slice adk key.length ck),(1,.int .u8 bv)] (Zs (eV (.rd 0 .done) (Zr 0 1 [] (Zd (Zt (Zs (Zs (eV (.rd 0 (.rd 1 (.rd 2 .done))) (Zr 0 3 [] (Zd (Zt (eZ (t:=decide ((key.length:Int)>64)) (λh1=>?_) (λh1=>?_))))))))))))))
 ·have a3:=of_decide_eq_true h1
  exfalso;omega
 ·have a3:=of_decide_eq_false h1
  refine Zk (Zt (Zs (eV (.ef 0 (.rd 1 .done)) (aL.makeSlice rfl zk (t:=66) (e:=5) (n:=64) zk zk (ti:=Tryz.t5) zk (z:=.int .u8 0) zk (f:=aD) (0:Int) zk (size:=1) zk aF zb za (Nat.le_of_ble_eq_true zk) hs λu w3 a2=>⟨gS,Zr 1 1 [] (Zd (Zt (Zs (eV (.rd 0 (.rd 1 (.ef 2 .done))) (Zr 0 2 [] (aL.M8 rfl zk Rs aF (b:=u) (off:=0) (dLen:=64) (dCap:=64) (ys:=key) (adx:=adk) (cx:=ck) (0:Int) rfl zk a2 (hr _ (a2.drop 1)) (by rw [eI aF.size];simp only [List.length_replicate,Nat.zero_add];exact Nat.mul_le_mul_right _ za) (cs':=aA aD (kz (List.replicate 64 (0:Int)) 0 (key.take (min key.length 64)))) (by show aV _ (0*1) _=_;exact CX aF.size zB) λw7 a4=>⟨gS,Zd (Zt (Zs (Zs (eV (.rd 0 .done) (Zr 0 1 [] (Zd (Zt (Zb (aX.loop (T:=Nat) (λgg=>[(1,.int .u8 bv),(4,.slice none 0 0),(6,zL u 0 64 64),(19,.int .i64 (gg:Nat))]) (λgg w=>(gg<=64)/\St w0 (aB u (aA aD (mr key bv gg)) 5::L) w) (λgg=>64-gg) 0 [1,4,6,19] zk ⟨Nat.zero_le _,a4⟩ ?_)))))))))⟩))))))⟩))))
  rintro k w9 ⟨hp,a0⟩
  refine Zs (eV (.rd 0 .done) (Zr 0 1 [] (Zd (Zt (Zs (eZ (t:=decide ((k:Int)<64)) (λa1=>?_) (λa1=>?_)))))))
  ·have a5:=of_decide_eq_true a1
   have hk:k<64:=za
   have hln:=oE key bv k
   refine Zk (Zt (Zs (Zb (Zs (eV (.rd 0 (.rd 1 .done)) (Zr 0 2 [] (Zd (Zt (eV (.rd 0 (.rd 1 (.rd 2 (.rd 3 (.rd 4 (.rd 5 (.rd 6 (.ef 7 .done)))))))) (Zp 0 7 [(2,.dH (zP u (0+(k*1))) .at_),(3,.gen [.int .u8 ((mr key bv k).getD k 0)]),(6,.dH (zP u (0+(k*1))) .at_)] [(2,[.prop (0<=(k:Int)/\(k:Int)<(64:Int)),.prop (Value.pointer (some (Addr.add ⟨u,0,none⟩ (Int.toNat (k:Nat)*1)))=Value.pointer (some ⟨u,0+(k*1),none⟩))]),(3,[.cell ⟨u,0+(k*1),none⟩ (.int .u8 ((mr key bv k).getD k 0))]),(6,[.prop (0<=(k:Int)/\(k:Int)<(64:Int)),.prop (Value.pointer (some (Addr.add ⟨u,0,none⟩ (Int.toNat (k:Nat)*1)))=Value.pointer (some ⟨u,0+(k*1),none⟩))])] (ak (aJ za (aJ (aU _ _ _) aR)) (ak (bE (aC.cV (aG a0 0 rfl aF.size (0:Int)) (k:=k) zo (j:=0) zb zk) aR) (ak (aJ za (aJ (aU _ _ _) aR)) iF))) (aL.store rfl rfl zk (b:=u) (off:=0+(k*1)) (v:=.int .u8 (bX .u8 ((mr key bv k).getD k 0) bv)) zk zk (ti:=Tryz.t5) zk a0 0 rfl zk zk (by rw [Nat.zero_add];exact gN (f:=aD) (size:=1) (l:=mr key bv k) (k:=k) aF.size zo) (cs':=aA aD ((mr key bv k).set k (bX .u8 ((mr key bv k).getD k 0) bv))) (L':=(aB u (aA aD ((mr key bv k).set k (bX .u8 ((mr key bv k).getD k 0) bv))) 5)::L) (by rw [Nat.zero_add];exact fO (f:=aD) (size:=1) (l:=mr key bv k) (k:=k) aF.size zo (bX .u8 ((mr key bv k).getD k 0) bv)) rfl λa6 a7=>⟨gS,Zd (Zm (Zt (eV (.rd 0 (.rd 1 .done)) (Zp 0 2 [(0,.dH (.int .i64 ((k:Nat)+1)) (.gen []))] [(0,[.prop (Value.int .i64 (IntKind.i64.wrap ((k:Nat)+1))=Value.int .i64 ((k:Nat)+1))])] (ak (aJ (iD za za) aR) iF) (Zd ?_)))))⟩)))))))))))
   have a8:St w0 (aB u (aA aD (mr key bv (k+1))) 5::L) a6:=a7
   exact aS.back (k+1) [1,4,6,19] zk (by show 64-(k+1)<64-k;omega) ⟨za,a8⟩
  ·have a5:=of_decide_eq_false a1
   have hke:k=64:=za
   subst hke
   exact Zx (aS.eQ (aS.eR (aS.kI (Zt (Zs (eV (.rd 0 (.rd 1 .done)) (Zr 0 2 [] (Zd (Zt (Ze (bY (v:=zL u 0 64 64) ⟨u,rfl,a0⟩)))))))))))
end
section
variable {w0 w : World} {L : List bA}
def gP (key bl:List Int):List Int:=fR (cU key 92) (fR (cU key 54) bl)
theorem eJ (key bl:List Int):(gP key bl).length=32:=cT _ _
def we (x y:List Int) (k:Nat):Int:=iter (λj v=>jQ .u8 v (bX .u8 (x.getD j 0) (y.getD j 0))) k 0
theorem zI {p:Prop}(h:p:=by rw [jW];decide):p:=h
theorem zQ {p:Prop}(h:p:=by rw [cT];decide):p:=h
theorem wg {adk:Option Addr}{ck:Nat}{adb:Option Addr}{cb:Nat}key bl (hkl:key.length<=64) (hnk:adk=none->ck=0) (hbc:bl.length<=cb) (hbl:bl.length<=1000000000) (hTab:∀ w,St w0 L w->kA w) (hr1:Rw w0 L aD 1 0 adk key) (hr2:Rw w0 L aD 1 0 adb bl) (hs:St w0 L w):Cs Tryz.prog 114 #[.slice adk key.length ck,.slice adb bl.length cb] w λrv w'=>rv=.agg (aA aD (gP key bl))/\St w0 L w':=by
 refine enter (args:=[.slice adk key.length ck,.slice adb bl.length cb]) Tryz.func114 rfl Tryz.ntmps114 (Nat.le_of_ble_eq_true zk) (Zn [(0,.slice adk key.length ck),(1,.slice adb bl.length cb)] (Zs (eV (.ef 0 .done) (tW ko hs λb1 w2 a4=>⟨gS,Zd (Zt (Zs (eV (.rd 0 (.ef 1 (.rd 2 (.ef 3 (.ef 4 (.ef 5 (.ef 6 .done))))))) (Zr 0 1 [] (dJ (f:=173) (args:=#[.slice adk key.length ck,.int .u8 54]) Tryz.call173 (ug key 54 zc hnk (λw h=>hr1 _ (h.drop 1)) a4) ?_)))))⟩))))
 rintro v6 w7 ⟨a0,rfl,a5⟩
 refine⟨gS,Zr 2 1 [] (aL.bU rfl zk (t:=361) (e:=66) (n:=2) (ps:=[(0,zL a0 0 64 64),(1,.slice adb bl.length cb)]) zk zk (ti:=Tryz.t66) (z:=.slice none 0 0) zk zk zb zb (cs:=#[zL a0 0 64 64,.slice adb bl.length cb]) zk a5 λb8 w9 a6 b6=>⟨gS,dJ (f:=172) (args:=#[zL b8 0 2 2]) Tryz.call172 (sN (cU key 54) bl (jW _ _) rfl zI zc zI zc (λw h=>hTab w (h.drop 2)) (λw h=>aG h 0 rfl aF.size _) (λw h=>hr2 _ (h.drop 2)) a6) ?_⟩)⟩
 rintro b7 b9 ⟨rfl,a7⟩
 refine⟨gS,(tW ko a7 λu c0 a8=>⟨gS,(aL.store rfl rfl zk (b:=u) (off:=0) (v:=.agg (aA aD (fR (cU key 54) bl))) zk zk (ti:=Tryz.t39) zk a8 0 rfl (cR aF (show(fR (cU key 54) bl).length=32 from(cT _ _)) zk) (eO aF) (eC aF (show(fR (cU key 54) bl).length=32 from(cT _ _)) zk) (cs':=aA aD (fR (cU key 54) bl)) (L':=(aB u (aA aD (fR (cU key 54) bl)) 39)::aB b8 #[zL a0 0 64 64,.slice adb bl.length cb] 66::aB a0 (aA aD (cU key 54)) 5::aB b1 ko 39::L) (fA aF (show(fR (cU key 54) bl).length=32 from(cT _ _)) zk) rfl λc1 a9=>⟨gS,Zd (Zt (Zs (ZD (gE [0,2] (.ef 1 (.ef 3 (.ef 4 (.ef 5 .done))))) a9 λc2 b0 c3=>Zh [(0,.gen []),(2,.dH (zL u 0 32 32) (.sub 0 32))] [(2,[.prop (((none:Option Operand)=none->(0:Nat)=0)/\((none:Option Operand)=none->(32:Nat)=32)/\(0:Nat)<=32/\(32:Nat)<=32),.prop (Value.slice (some (if 32=0 then Addr.mk u 0 none else (Addr.mk u 0 none).add (0*1))) (32-0) (32-0)=Value.slice (some ⟨u,0,none⟩) 32 32)])] (ak (aJ ⟨(by first|(intro _;rfl)|(intro hc;cases hc)),(by first|(intro _;rfl)|(intro hc;cases hc)),za,za⟩ (aJ (eM _ _ _ _ _ zb) aR)) iF) ?_)))⟩)⟩)⟩
 refine dJ (f:=173) (args:=#[.slice adk key.length ck,.int .u8 92]) Tryz.call173 (ug key 92 zc hnk (λw h=>hr1 _ (h.drop 4)) b0) ?_
 rintro c4 c5 ⟨a1,rfl,b2⟩
 refine⟨gR (n:=[.prop (((none:Option Operand)=none->(0:Nat)=0)/\((none:Option Operand)=none->(32:Nat)=32)/\(0:Nat)<=32/\(32:Nat)<=32),.prop (Value.slice (some (if 32=0 then Addr.mk u 0 none else (Addr.mk u 0 none).add (0*1))) (32-0) (32-0)=Value.slice (some ⟨u,0,none⟩) 32 32)]) zk (aJ ⟨(by first|(intro _;rfl)|(intro hc;cases hc)),(by first|(intro _;rfl)|(intro hc;cases hc)),za,za⟩ (aJ (eM _ _ _ _ _ zb) aR)),(aL.bU rfl zk (t:=361) (e:=66) (n:=2) (ps:=[(0,zL a1 0 64 64),(1,zL u 0 32 32)]) zk zk (ti:=Tryz.t66) (z:=.slice none 0 0) zk zk zb zb (cs:=#[zL a1 0 64 64,zL u 0 32 32]) zk b2 λa2 c6 b3 c7=>⟨gS,dJ (f:=172) (args:=#[zL a2 0 2 2]) Tryz.call172 (sN (cU key 92) (fR (cU key 54) bl) (jW _ _) (cT _ _) zI zQ zI zQ (λw h=>hTab w (h.drop 5)) (λw h=>aG h 0 rfl aF.size _) (λw h=>aG h 1 rfl aF.size _) b3) ?_⟩)⟩
 rintro c9 d1 ⟨rfl,b4⟩
 refine⟨gS,(aL.store rfl rfl zk (b:=b1) (off:=0) (v:=.agg (aA aD (fR (cU key 92) (fR (cU key 54) bl)))) zk zk (ti:=Tryz.t39) zk b4 5 rfl (cR aF (show(fR (cU key 92) (fR (cU key 54) bl)).length=32 from(cT _ _)) zk) (eO aF) (eC aF (show(fR (cU key 92) (fR (cU key 54) bl)).length=32 from(cT _ _)) zk) (cs':=aA aD (fR (cU key 92) (fR (cU key 54) bl))) (L':=(aB a2 #[zL a1 0 64 64,zL u 0 32 32] 66)::aB a1 (aA aD (cU key 92)) 5::aB u (aA aD (fR (cU key 54) bl)) 39::aB b8 #[zL a0 0 64 64,.slice adb bl.length cb] 66::aB a0 (aA aD (cU key 54)) 5::aB b1 (aA aD (fR (cU key 92) (fR (cU key 54) bl))) 39::L) (fA aF (show(fR (cU key 92) (fR (cU key 54) bl)).length=32 from(cT _ _)) zk) rfl λd2 a3=>⟨gS,Zd (Zt (Ze (aS.done (.inl rfl) (v:=.agg (aA aD (fR (cU key 92) (fR (cU key 54) bl)))) (λa hf=>dS rfl zk (ti:=Tryz.t39) zk zk (vs:=aA aD (fR (cU key 92) (fR (cU key 54) bl))) (bS aF (show(fR (cU key 92) (fR (cU key 54) bl)).length=32 from(cT _ _)) zk) (a3.cells 5 0 rfl zw) a hf) ?_)))⟩)⟩
 have b5:=a3.dr 6
 exact⟨rfl,b5⟩
end
section
variable {w0 w : World} {L : List bA}
theorem wi (v:bW):v.toList.length=32:=by simp
def ui (x y:List Int):Bool:=we x y 32 == 0
theorem FJ x y (lx:x.length=32) (ly:y.length=32) (hs:St w0 L w):Cs Tryz.prog 66 #[.agg (aA aD x),.agg (aA aD y)] w λrv w'=>rv=.bool (ui x y)/\St w0 L w':=by
 refine enter (args:=[.agg (aA aD x),.agg (aA aD y)]) Tryz.func66 rfl Tryz.ntmps66 (Nat.le_of_ble_eq_true zk) (Zn [(0,.agg (aA aD x)),(1,.agg (aA aD y))] (Zs (eV (.ef 0 (.ef 1 (.rd 2 .done))) (mT (aA aD x) hs λu w2 a3=>⟨gS,(mT (aA aD y) a3 λz w5 a4=>⟨gS,Zr 2 1 [] (Zd (Zt (Zs (eV (.rd 0 .done) (Zr 0 1 [] (Zd (Zt (Zs (Zs (eV (.rd 0 .done) (Zr 0 1 [] (Zd (Zt (Zb (aX.loop (T:=Nat×Int) (λgg=>[(2,zP u 0),(3,zP z 0),(4,.bool false),(5,.int .u8 gg.2),(7,.int .i64 (gg.1:Nat))]) (λgg w=>(gg.1<=32/\gg.2=we x y gg.1)/\St w0 (aB z (aA aD y) 39::aB u (aA aD x) 39::L) w) (λgg=>32-gg.1) (0,0) [2,3,4,5,7] zk ⟨⟨Nat.zero_le _,rfl⟩,a4⟩ ?_)))))))))))))))⟩)⟩))))
 rintro⟨k,wv⟩ w7 ⟨hp,a0⟩
 dsimp only at hp a0
 refine Zs (eV (.rd 0 .done) (Zr 0 1 [] (Zd (Zt (Zs (eZ (t:=decide ((k:Int)<32)) (λa1=>?_) (λa1=>?_)))))))
 ·have a5:=of_decide_eq_true a1
  have hk:k<32:=za
  exact Zk (Zt (Zs (Zb (Zs (eV (.rd 0 (.rd 1 .done)) (Zr 0 2 [] (Zd (Zt (ZD (gE [0,1,2,3,4,5,6,7,8,9] .done) a0 λa7 a2 a8=>Zp 0 10 [(2,.dH (zP u (0+(k*1))) .at_),(3,.gen [.int .u8 (x.getD k 0)]),(5,.dH (zP z (0+(k*1))) .at_),(6,.gen [.int .u8 (y.getD k 0)])] [(2,[.prop (0<=(k:Int)/\(k:Int)<(32:Int)),.prop (Value.pointer (some (Addr.add ⟨u,0,none⟩ (Int.toNat (k:Nat)*1)))=Value.pointer (some ⟨u,0+(k*1),none⟩))]),(3,[.cell ⟨u,0+(k*1),none⟩ (.int .u8 (x.getD k 0))]),(5,[.prop (0<=(k:Int)/\(k:Int)<(32:Int)),.prop (Value.pointer (some (Addr.add ⟨z,0,none⟩ (Int.toNat (k:Nat)*1)))=Value.pointer (some ⟨z,0+(k*1),none⟩))]),(6,[.cell ⟨z,0+(k*1),none⟩ (.int .u8 (y.getD k 0))])] (ak (aJ za (aJ (aU _ _ _) aR)) (ak (bE (aC.cV (aG a2 1 rfl aF.size (0:Int)) (k:=k) zo (j:=0) zb zk) aR) (ak (aJ za (aJ (aU _ _ _) aR)) (ak (bE (aC.cV (aG a2 0 rfl aF.size (0:Int)) (k:=k) zo (j:=0) zb zk) aR) iF)))) (Zd (Zm (Zt (eV (.rd 0 (.rd 1 .done)) (Zp 0 2 [(0,.dH (.int .i64 ((k:Nat)+1)) (.gen []))] [(0,[.prop (Value.int .i64 (IntKind.i64.wrap ((k:Nat)+1))=Value.int .i64 ((k:Nat)+1))])] (ak (aJ (iD za za) aR) iF) (Zd (aS.back (k+1,jQ .u8 wv (bX .u8 (x.getD k 0) (y.getD k 0))) [2,3,4,5,7] zk (by show 32-(k+1)<32-k;omega) ⟨⟨za,by rw [hp.2];rfl⟩,a2⟩))))))))))))))))
 ·have a5:=of_decide_eq_false a1
  have hke:k=32:=za
  exact Zx (aS.eQ (aS.eR (aS.kI (Zt (Zs (eV (.rd 0 (.rd 1 (.rd 2 .done))) (Zr 0 3 [] (Zd (Zt (Ze (bY (v:=.bool ((wv:Int) == 0)) ⟨(by rw [hp.2,hke];rfl),a0.dr 2⟩)))))))))))
theorem wj (x y:bW) (hs:St w0 L w):Cs Tryz.prog 66 #[.agg (bW.cells x),.agg (bW.cells y)] w λrv w'=>rv=.bool (ui x.toList y.toList)/\St w0 L w':=by
 rw [ON,ON]
 exact FJ _ _ (wi x) (wi y) hs
end
end Go.Proofs.YthfpmlpoiocfdaaGreatDoor
