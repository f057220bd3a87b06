/-
  Several texts in one: RsB, ShaL, RsP, RsC, RsD, RsE, RsF, RsG, ApA, IfA, IfB, IfS, IfC, IfD, IfE, IfF, IfG, IfH, IfI, IfJ, IfK, IfL.
-/
import Derived.Test.YtdaohdehpmgfdaaGreatDoorSxT
import Derived.Test.YtdaohdehpmgfdaaGreatDoorGaB
import Derived.Test.YtdaohdehpmgfdaaGreatDoorGaA
namespace Go.Proofs.YtdaohdehpmgfdaaGreatDoor
open Go.RowKit Go.Sx
set_option linter.unusedVariables false
set_option linter.unusedSimpArgs false
set_option linter.unnecessarySimpa false
set_option maxRecDepth 100000
def oz (bl:List Int) (k0:Nat) (x0:List Int):List Int:=x0.set k0 (fV .u32 (fV .u32 (fV .u32 (bV .u32 (IntKind.u32.wrap (bl.getD (4*k0) 0)) 24) (bV .u32 (IntKind.u32.wrap (bl.getD (4*k0+1) 0)) 16)) (bV .u32 (IntKind.u32.wrap (bl.getD (4*k0+2) 0)) 8)) (IntKind.u32.wrap (bl.getD (4*k0+3) 0)))
def lr (bl:List Int):List Int:=iter (oz bl) 16 (List.replicate 64 0)
def jO (k1:Nat) (x1:List Int):List Int:=x1.set k1 (IntKind.u32.wrap ((IntKind.u32.wrap ((IntKind.u32.wrap ((x1.getD (k1-16) 0)+(bN .u32 (bN .u32 (fC (x1.getD (k1-15) 0) 7) (fC (x1.getD (k1-15) 0) 18)) (aM .u32 (x1.getD (k1-15) 0) 3))))+(x1.getD (k1-7) 0)))+(bN .u32 (bN .u32 (fC (x1.getD (k1-2) 0) 17) (fC (x1.getD (k1-2) 0) 19)) (aM .u32 (x1.getD (k1-2) 0) 10))))
def rB (bl:List Int):List Int:=iter (λn=>jO (n+16)) 48 (lr bl)
def iW (x1:List Int) (k2:Nat) (x2:List Int):List Int:=[IntKind.u32.wrap ((IntKind.u32.wrap ((IntKind.u32.wrap ((IntKind.u32.wrap ((IntKind.u32.wrap ((x2.getD 7 0)+(bN .u32 (bN .u32 (fC (x2.getD 4 0) 6) (fC (x2.getD 4 0) 11)) (fC (x2.getD 4 0) 25))))+(bN .u32 (eG .u32 (x2.getD 4 0) (x2.getD 5 0)) (eG .u32 (xK .u32 (x2.getD 4 0)) (x2.getD 6 0)))))+(shaT.getD k2 0)))+(x1.getD k2 0)))+(IntKind.u32.wrap ((bN .u32 (bN .u32 (fC (x2.getD 0 0) 2) (fC (x2.getD 0 0) 13)) (fC (x2.getD 0 0) 22))+(bN .u32 (bN .u32 (eG .u32 (x2.getD 0 0) (x2.getD 1 0)) (eG .u32 (x2.getD 0 0) (x2.getD 2 0))) (eG .u32 (x2.getD 1 0) (x2.getD 2 0)))))),x2.getD 0 0,x2.getD 1 0,x2.getD 2 0,IntKind.u32.wrap ((x2.getD 3 0)+(IntKind.u32.wrap ((IntKind.u32.wrap ((IntKind.u32.wrap ((IntKind.u32.wrap ((x2.getD 7 0)+(bN .u32 (bN .u32 (fC (x2.getD 4 0) 6) (fC (x2.getD 4 0) 11)) (fC (x2.getD 4 0) 25))))+(bN .u32 (eG .u32 (x2.getD 4 0) (x2.getD 5 0)) (eG .u32 (xK .u32 (x2.getD 4 0)) (x2.getD 6 0)))))+(shaT.getD k2 0)))+(x1.getD k2 0)))),x2.getD 4 0,x2.getD 5 0,x2.getD 6 0]
def lu (s bl:List Int):List Int:=iter (iW (rB bl)) 64 s
def xj (s:List Int) (k3:Nat) (x3:List Int):List Int:=x3.set k3 (IntKind.u32.wrap ((x3.getD k3 0)+(s.getD k3 0)))
def rC (s bl:List Int):List Int:=iter (xj s) 8 (lu s bl)
abbrev Ex (k1:Nat) (x1:List Int):Int:=IntKind.u32.wrap ((IntKind.u32.wrap ((IntKind.u32.wrap ((x1.getD (k1-16) 0)+(bN .u32 (bN .u32 (fC (x1.getD (k1-15) 0) 7) (fC (x1.getD (k1-15) 0) 18)) (aM .u32 (x1.getD (k1-15) 0) 3))))+(x1.getD (k1-7) 0)))+(bN .u32 (bN .u32 (fC (x1.getD (k1-2) 0) 17) (fC (x1.getD (k1-2) 0) 19)) (aM .u32 (x1.getD (k1-2) 0) 10)))
abbrev Ey (bl:List Int) (k0:Nat):Int:=fV .u32 (fV .u32 (fV .u32 (bV .u32 (IntKind.u32.wrap (bl.getD (4*k0) 0)) 24) (bV .u32 (IntKind.u32.wrap (bl.getD (4*k0+1) 0)) 16)) (bV .u32 (IntKind.u32.wrap (bl.getD (4*k0+2) 0)) 8)) (IntKind.u32.wrap (bl.getD (4*k0+3) 0))
abbrev BS:Array Value:=Dp
abbrev rD:Array Value:=wI
theorem zo {p:Prop}(h:p:=by first|omega|(simp only [List.length_set];omega)|(simp only [List.length_set,List.length_append,List.length_cons,List.length_nil];omega)|(simp only [mB];omega)):p:=h
theorem tf {w0 w:World}{L:List aI}(s:List Int) (bl:List Int) (hs8:s.length=8) (hb:bl.length=64) (hs:St w0 L w):Calls Tryz.prog 187 #[.agg (ae aN s),.agg (ae af bl)] w (aZ λrv w'=>rv=.agg (ae aN (rC s bl))/\St w0 L w'):=by
 refine bp Tryz.func187 Tryz.ntmps187 ?_
 refine En (Ls (Lg [0,1,2] (Dz ?_)))
 refine ar.box rfl rfl zk (v:=.agg (ae aN s)) zk hs (cs:=ae aN s) zk ?_
 intro b1 w2 hs3
 refine Lo (Dz ?_)
 refine ar.box rfl rfl zk (v:=.agg (ae af bl)) zk hs3 (cs:=ae af bl) zk ?_
 intro b4 w5 hs6
 refine Lo (Dz ?_)
 refine ar.alloc rfl rfl zk (z:=.agg rD) zk hs6 (cs:=rD) zk ?_
 intro b7 w8 hs9
 refine Lo (Ld (Lt (Ls (Lg [0] (Dz ?_)))))
 refine ar.alloc rfl rfl zk (z:=.agg BS) zk hs9 (cs:=BS) zk ?_
 intro b10 w11 hs12
 refine Lo (Ld (Lt (Ls (Ls (La (Lt (Lb (Dz ?_))))))))
 have hs13:St w0 (ah b10 (ae aN (List.replicate 64 0)) 318::ah b7 rD 297::ah b4 (ae af bl) 299::ah b1 (ae aN s) 297::L) w11:=Eq.mp zk hs12
 refine aE.loop (T:=Nat×(List Int)) (λgg=>[(2,zP b1 0),(3,zP b4 0),(4,zP b7 0),(5,zP b10 0),(6,.int .i64 (gg.1:Nat))]) (λgg w=>(gg.1<=16/\gg.2=iter (oz bl) gg.1 (List.replicate 64 0)/\gg.2.length=64)/\St w0 (ah b10 (ae aN gg.2) 318::ah b7 rD 297::ah b4 (ae af bl) 299::ah b1 (ae aN s) 297::L) w) (λgg=>16-gg.1) (0,(List.replicate 64 0)) [2,3,4,5,6] zk ⟨⟨Nat.le_of_ble_eq_true rfl,rfl,rfl⟩,hs13⟩ ?_
 rintro⟨k0,x0⟩ w14 ⟨hpa0,hs15⟩
 have hpa:k0<=16/\x0=iter (oz bl) k0 (List.replicate 64 0)/\x0.length=64:=hpa0
 have hs16:St w0 (ah b10 (ae aN x0) 318::ah b7 rD 297::ah b4 (ae af bl) 299::ah b1 (ae aN s) 297::L) w14:=hs15
 refine Zn [(2,zP b1 0),(3,zP b4 0),(4,zP b7 0),(5,zP b10 0),(6,.int .i64 (k0:Nat))] ?_
 refine En (Ls (Ls (La (Lt (Dz ?_)))))
 refine Zi (((k0:Nat):Int)<16) (λh17'=>?_) (λh17'=>?_)
 ·refine Zk (Zt (Zs (Zb (?_))))
  refine aE.aV [0,0,2,6,14,30,62,0,128,384,896,1920,3968,8064,16382,0,32768,98304,229376,491520,1015808,2064384,4194302,0,8388608,25165824,58720256,125829120,260046848,536870910,1073741823,2147483647] (.rd 0 (.rd 1 (.rd 2 (.rd 3 (.rd 4 (.rd 5 (.rd 6 (.rd 7 (.rd 8 (.rd 9 (.rd 10 (.rd 11 (.rd 12 (.rd 13 (.rd 14 (.rd 15 (.rd 16 (.rd 17 (.rd 18 (.rd 19 (.rd 20 (.rd 21 (.rd 22 (.rd 23 (.rd 24 (.rd 25 (.rd 26 (.rd 27 (.rd 28 (.rd 29 (.rd 30 (.ef 31 .done)))))))))))))))))))))))))))))))) zk zk ai zk hs16 ?_
  intro w18 hs19 hw20
  refine Zj (cH 2 (4*(k0:Nat)) (Hx 3 ((4*(k0:Nat)):Int) (64:Int) b4 0 1 (Hg 4 (.gen [.int .u8 (bl.getD (4*k0) 0)]) [.cell ⟨b4,0+((4*k0)*1),none⟩ (.int .u8 (bl.getD (4*k0) 0))] (aG (ag.cC (au hs19 2 rfl aj.size (0:Int)) (k:=(4*k0)) zo (j:=0) zf zk) av) (Hg 6 (.shift (bV .u32 (IntKind.u32.wrap (bl.getD (4*k0) 0)) 24)) [.prop ((0:Int)<=24/\IntKind.u32.wrap ((IntKind.u32.wrap (bl.getD (4*k0) 0))*2 ^ (min (Int.toNat 24) (IntKind.bits .u32)))=bV .u32 (IntKind.u32.wrap (bl.getD (4*k0) 0)) 24)] (aB ⟨(by first|omega|exact bf rfl _),rfl⟩ av) (cH 8 (4*(k0:Nat)) (cH 9 ((4*(k0:Nat))+1) (Hx 10 (((4*(k0:Nat))+1):Int) (64:Int) b4 0 1 (Hg 11 (.gen [.int .u8 (bl.getD (4*k0+1) 0)]) [.cell ⟨b4,0+((4*k0+1)*1),none⟩ (.int .u8 (bl.getD (4*k0+1) 0))] (aG (ag.cC (au hs19 2 rfl aj.size (0:Int)) (k:=(4*k0+1)) zo (j:=0) zf zk) av) (Hg 13 (.shift (bV .u32 (IntKind.u32.wrap (bl.getD (4*k0+1) 0)) 16)) [.prop ((0:Int)<=16/\IntKind.u32.wrap ((IntKind.u32.wrap (bl.getD (4*k0+1) 0))*2 ^ (min (Int.toNat 16) (IntKind.bits .u32)))=bV .u32 (IntKind.u32.wrap (bl.getD (4*k0+1) 0)) 16)] (aB ⟨(by first|omega|exact bf rfl _),rfl⟩ av) (cH 16 (4*(k0:Nat)) (cH 17 ((4*(k0:Nat))+2) (Hx 18 (((4*(k0:Nat))+2):Int) (64:Int) b4 0 1 (Hg 19 (.gen [.int .u8 (bl.getD (4*k0+2) 0)]) [.cell ⟨b4,0+((4*k0+2)*1),none⟩ (.int .u8 (bl.getD (4*k0+2) 0))] (aG (ag.cC (au hs19 2 rfl aj.size (0:Int)) (k:=(4*k0+2)) zo (j:=0) zf zk) av) (Hg 21 (.shift (bV .u32 (IntKind.u32.wrap (bl.getD (4*k0+2) 0)) 8)) [.prop ((0:Int)<=8/\IntKind.u32.wrap ((IntKind.u32.wrap (bl.getD (4*k0+2) 0))*2 ^ (min (Int.toNat 8) (IntKind.bits .u32)))=bV .u32 (IntKind.u32.wrap (bl.getD (4*k0+2) 0)) 8)] (aB ⟨(by first|omega|exact bf rfl _),rfl⟩ av) (cH 24 (4*(k0:Nat)) (cH 25 ((4*(k0:Nat))+3) (Hx 26 (((4*(k0:Nat))+3):Int) (64:Int) b4 0 1 (Hg 27 (.gen [.int .u8 (bl.getD (4*k0+3) 0)]) [.cell ⟨b4,0+((4*k0+3)*1),none⟩ (.int .u8 (bl.getD (4*k0+3) 0))] (aG (ag.cC (au hs19 2 rfl aj.size (0:Int)) (k:=(4*k0+3)) zo (j:=0) zf zk) av) (Hx 30 ((k0:Nat):Int) (64:Int) b10 0 1 Hz))))))))))))))))))) ?_
  refine ar.store rfl rfl zk (b:=b10) (off:=0+(k0*1)) (v:=.int .u32 (Ey bl k0)) zk zk (ti:=Tryz.t296) zk hs19 0 rfl zk zk (by rw [Nat.zero_add];exact fH (f:=aN) (size:=1) (l:=x0) (k:=k0) aQ.size zo) (cs':=ae aN (oz bl k0 x0)) (L':=(ah b10 (ae aN (oz bl k0 x0)) 318)::ah b7 rD 297::ah b4 (ae af bl) 299::ah b1 (ae aN s) 297::L) (by rw [Nat.zero_add];exact eh (f:=aN) (size:=1) (l:=x0) (k:=k0) aQ.size zo (Ey bl k0)) rfl ?_
  intro w21 hs22
  refine Lo (Ld (Lm (Lt (Dz ?_))))
  refine bj (cH 1 ((k0:Nat)+1) Hz) ?_
  exact aw.back (k0+1,x0.set k0 (Ey bl k0)) [2,3,4,5,6] zk (by show 16-(k0+1)<16-k0;omega) ⟨⟨za,by rw [cF,<- hpa.2.1];rfl,by first|rfl|(simp only [List.length_set];omega)⟩,hs22⟩
 ·refine En (Lx (gv (gw (Lh (Lt (Ls (Ls (La (Lt (Lb (Dz ?_)))))))))))
  refine aE.loop (T:=Nat×(List Int)) (λgg=>[(2,zP b1 0),(4,zP b7 0),(5,zP b10 0),(7,.int .i64 (gg.1:Nat))]) (λgg w=>(16<=gg.1/\gg.1<=64/\gg.2=iter (λn=>jO (n+16)) (gg.1-16) (lr bl)/\gg.2.length=64)/\St w0 (ah b10 (ae aN gg.2) 318::ah b7 rD 297::ah b4 (ae af bl) 299::ah b1 (ae aN s) 297::L) w) (λgg=>64-gg.1) (16,x0) [2,4,5,7] zk ⟨⟨Nat.le_refl _,Nat.le_of_ble_eq_true rfl,(by rw [Nat.sub_self,qj,hpa.2.1,show k0=16 by omega];rfl),zq⟩,hs16⟩ ?_
  rintro⟨k1,x1⟩ w23 ⟨hpb0,hs24⟩
  have hpb:16<=k1/\k1<=64/\x1=iter (λn=>jO (n+16)) (k1-16) (lr bl)/\x1.length=64:=hpb0
  have hs25:St w0 (ah b10 (ae aN x1) 318::ah b7 rD 297::ah b4 (ae af bl) 299::ah b1 (ae aN s) 297::L) w23:=hs24
  refine Zn [(2,zP b1 0),(4,zP b7 0),(5,zP b10 0),(7,.int .i64 (k1:Nat))] ?_
  refine En (Ls (Ls (La (Lt (Dz ?_)))))
  refine Zi (((k1:Nat):Int)<64) (λh26'=>?_) (λh26'=>?_)
  ·refine Zk (Zt (Zs (Zb (Zs (?_)))))
   refine aE.aV [0,1,3,7,15,0,32,96,224,511,1023,0,2048,6144,14336,30720,65535,131071] (.rd 0 (.rd 1 (.rd 2 (.rd 3 (.rd 5 (.rd 6 (.rd 7 (.rd 8 (.rd 11 (.rd 12 (.rd 13 (.rd 14 (.rd 15 (.ef 4 (.ef 9 (.rd 10 (.rd 16 (.rd 17 .done)))))))))))))))))) zk zk ai zk hs25 ?_
   intro w27 hs28 hw29
   refine Zj (Hg 1 (.cI (.int .i64 (k1-15:Nat)) (.gen [])) [.prop (Value.int .i64 (IntKind.i64.wrap ((k1:Nat)-15))=Value.int .i64 (k1-15:Nat))] (aB (de za za za) av) (Hx 2 ((k1-15:Nat):Int) (64:Int) b10 0 1 (Hg 3 (.gen [.int .u32 (x1.getD (k1-15) 0)]) [.cell ⟨b10,0+((k1-15)*1),none⟩ (.int .u32 (x1.getD (k1-15) 0))] (aG (ag.cC (au hs28 0 rfl aQ.size (0:Int)) (k:=(k1-15)) zo (j:=0) zf zk) av) (Hg 6 (.cI (.int .i64 (k1-15:Nat)) (.gen [])) [.prop (Value.int .i64 (IntKind.i64.wrap ((k1:Nat)-15))=Value.int .i64 (k1-15:Nat))] (aB (de za za za) av) (Hx 7 ((k1-15:Nat):Int) (64:Int) b10 0 1 (Hg 8 (.gen [.int .u32 (x1.getD (k1-15) 0)]) [.cell ⟨b10,0+((k1-15)*1),none⟩ (.int .u32 (x1.getD (k1-15) 0))] (aG (ag.cC (au hs28 0 rfl aQ.size (0:Int)) (k:=(k1-15)) zo (j:=0) zf zk) av) (Hg 12 (.cI (.int .i64 (k1-15:Nat)) (.gen [])) [.prop (Value.int .i64 (IntKind.i64.wrap ((k1:Nat)-15))=Value.int .i64 (k1-15:Nat))] (aB (de za za za) av) (Hx 13 ((k1-15:Nat):Int) (64:Int) b10 0 1 (Hg 14 (.gen [.int .u32 (x1.getD (k1-15) 0)]) [.cell ⟨b10,0+((k1-15)*1),none⟩ (.int .u32 (x1.getD (k1-15) 0))] (aG (ag.cC (au hs28 0 rfl aQ.size (0:Int)) (k:=(k1-15)) zo (j:=0) zf zk) av) (Hg 15 (.shift (aM .u32 (x1.getD (k1-15) 0) 3)) [.prop ((0:Int)<=3/\Int.fdiv (x1.getD (k1-15) 0) (2 ^ (min (Int.toNat 3) (IntKind.bits .u32)))=aM .u32 (x1.getD (k1-15) 0) 3)] (aB ⟨(by first|omega|exact bf rfl _),rfl⟩ av) Hz)))))))))) ?_
   refine aF Tryz.call205 (eB (x1.getD (k1-15) 0) 7 zf hs28) ?_
   rintro v31 w32 ⟨rfl,hs30⟩
   refine⟨bw (n:=[.prop ((0:Int)<=3/\Int.fdiv (x1.getD (k1-15) 0) (2 ^ (min (Int.toNat 3) (IntKind.bits .u32)))=aM .u32 (x1.getD (k1-15) 0) 3),.cell ⟨b10,0+((k1-15)*1),none⟩ (.int .u32 (x1.getD (k1-15) 0)),.prop (0<=((k1-15:Nat):Int)/\((k1-15:Nat):Int)<(64:Int)),.prop (Value.pointer (some (Addr.add ⟨b10,0,none⟩ (Int.toNat (k1-15:Nat)*1)))=Value.pointer (some ⟨b10,0+((k1-15)*1),none⟩)),.prop (Value.int .i64 (IntKind.i64.wrap ((k1:Nat)-15))=Value.int .i64 (k1-15:Nat)),.cell ⟨b10,0+((k1-15)*1),none⟩ (.int .u32 (x1.getD (k1-15) 0)),.prop (0<=((k1-15:Nat):Int)/\((k1-15:Nat):Int)<(64:Int)),.prop (Value.pointer (some (Addr.add ⟨b10,0,none⟩ (Int.toNat (k1-15:Nat)*1)))=Value.pointer (some ⟨b10,0+((k1-15)*1),none⟩)),.prop (Value.int .i64 (IntKind.i64.wrap ((k1:Nat)-15))=Value.int .i64 (k1-15:Nat))]) zk (aB ⟨(by first|omega|exact bf rfl _),rfl⟩ (aG (ag.cC (au hs30 0 rfl aQ.size (0:Int)) (k:=(k1-15)) zo (j:=0) zf zk) (aB za (aB (aS _ _ _) (aB (de za za za) (aG (ag.cC (au hs30 0 rfl aQ.size (0:Int)) (k:=(k1-15)) zo (j:=0) zf zk) (aB za (aB (aS _ _ _) (aB (de za za za) av))))))))),?_⟩
   refine aF Tryz.call205 (eB (x1.getD (k1-15) 0) 18 zf hs30) ?_
   rintro v34 w35 ⟨rfl,hs33⟩
   refine⟨bw (n:=[.prop ((0:Int)<=3/\Int.fdiv (x1.getD (k1-15) 0) (2 ^ (min (Int.toNat 3) (IntKind.bits .u32)))=aM .u32 (x1.getD (k1-15) 0) 3),.cell ⟨b10,0+((k1-15)*1),none⟩ (.int .u32 (x1.getD (k1-15) 0)),.prop (0<=((k1-15:Nat):Int)/\((k1-15:Nat):Int)<(64:Int)),.prop (Value.pointer (some (Addr.add ⟨b10,0,none⟩ (Int.toNat (k1-15:Nat)*1)))=Value.pointer (some ⟨b10,0+((k1-15)*1),none⟩)),.prop (Value.int .i64 (IntKind.i64.wrap ((k1:Nat)-15))=Value.int .i64 (k1-15:Nat))]) zk (aB ⟨(by first|omega|exact bf rfl _),rfl⟩ (aG (ag.cC (au hs33 0 rfl aQ.size (0:Int)) (k:=(k1-15)) zo (j:=0) zf zk) (aB za (aB (aS _ _ _) (aB (de za za za) av))))),?_⟩
   refine En (aL (Lt (Ls (Dz ?_))))
   refine aE.aV [0,1,3,7,15,0,32,96,224,511,1023,0,2048,6144,14336,30720,65535,131071] (.rd 0 (.rd 1 (.rd 2 (.rd 3 (.rd 5 (.rd 6 (.rd 7 (.rd 8 (.rd 11 (.rd 12 (.rd 13 (.rd 14 (.rd 15 (.ef 4 (.ef 9 (.rd 10 (.rd 16 (.rd 17 .done)))))))))))))))))) zk zk ai zk hs33 ?_
   intro w36 hs37 hw38
   refine Zj (Hg 1 (.cI (.int .i64 (k1-2:Nat)) (.gen [])) [.prop (Value.int .i64 (IntKind.i64.wrap ((k1:Nat)-2))=Value.int .i64 (k1-2:Nat))] (aB (de za za za) av) (Hx 2 ((k1-2:Nat):Int) (64:Int) b10 0 1 (Hg 3 (.gen [.int .u32 (x1.getD (k1-2) 0)]) [.cell ⟨b10,0+((k1-2)*1),none⟩ (.int .u32 (x1.getD (k1-2) 0))] (aG (ag.cC (au hs37 0 rfl aQ.size (0:Int)) (k:=(k1-2)) zo (j:=0) zf zk) av) (Hg 6 (.cI (.int .i64 (k1-2:Nat)) (.gen [])) [.prop (Value.int .i64 (IntKind.i64.wrap ((k1:Nat)-2))=Value.int .i64 (k1-2:Nat))] (aB (de za za za) av) (Hx 7 ((k1-2:Nat):Int) (64:Int) b10 0 1 (Hg 8 (.gen [.int .u32 (x1.getD (k1-2) 0)]) [.cell ⟨b10,0+((k1-2)*1),none⟩ (.int .u32 (x1.getD (k1-2) 0))] (aG (ag.cC (au hs37 0 rfl aQ.size (0:Int)) (k:=(k1-2)) zo (j:=0) zf zk) av) (Hg 12 (.cI (.int .i64 (k1-2:Nat)) (.gen [])) [.prop (Value.int .i64 (IntKind.i64.wrap ((k1:Nat)-2))=Value.int .i64 (k1-2:Nat))] (aB (de za za za) av) (Hx 13 ((k1-2:Nat):Int) (64:Int) b10 0 1 (Hg 14 (.gen [.int .u32 (x1.getD (k1-2) 0)]) [.cell ⟨b10,0+((k1-2)*1),none⟩ (.int .u32 (x1.getD (k1-2) 0))] (aG (ag.cC (au hs37 0 rfl aQ.size (0:Int)) (k:=(k1-2)) zo (j:=0) zf zk) av) (Hg 15 (.shift (aM .u32 (x1.getD (k1-2) 0) 10)) [.prop ((0:Int)<=10/\Int.fdiv (x1.getD (k1-2) 0) (2 ^ (min (Int.toNat 10) (IntKind.bits .u32)))=aM .u32 (x1.getD (k1-2) 0) 10)] (aB ⟨(by first|omega|exact bf rfl _),rfl⟩ av) Hz)))))))))) ?_
   refine aF Tryz.call205 (eB (x1.getD (k1-2) 0) 17 zf hs37) ?_
   rintro v40 w41 ⟨rfl,hs39⟩
   refine⟨bw (n:=[.prop ((0:Int)<=10/\Int.fdiv (x1.getD (k1-2) 0) (2 ^ (min (Int.toNat 10) (IntKind.bits .u32)))=aM .u32 (x1.getD (k1-2) 0) 10),.cell ⟨b10,0+((k1-2)*1),none⟩ (.int .u32 (x1.getD (k1-2) 0)),.prop (0<=((k1-2:Nat):Int)/\((k1-2:Nat):Int)<(64:Int)),.prop (Value.pointer (some (Addr.add ⟨b10,0,none⟩ (Int.toNat (k1-2:Nat)*1)))=Value.pointer (some ⟨b10,0+((k1-2)*1),none⟩)),.prop (Value.int .i64 (IntKind.i64.wrap ((k1:Nat)-2))=Value.int .i64 (k1-2:Nat)),.cell ⟨b10,0+((k1-2)*1),none⟩ (.int .u32 (x1.getD (k1-2) 0)),.prop (0<=((k1-2:Nat):Int)/\((k1-2:Nat):Int)<(64:Int)),.prop (Value.pointer (some (Addr.add ⟨b10,0,none⟩ (Int.toNat (k1-2:Nat)*1)))=Value.pointer (some ⟨b10,0+((k1-2)*1),none⟩)),.prop (Value.int .i64 (IntKind.i64.wrap ((k1:Nat)-2))=Value.int .i64 (k1-2:Nat))]) zk (aB ⟨(by first|omega|exact bf rfl _),rfl⟩ (aG (ag.cC (au hs39 0 rfl aQ.size (0:Int)) (k:=(k1-2)) zo (j:=0) zf zk) (aB za (aB (aS _ _ _) (aB (de za za za) (aG (ag.cC (au hs39 0 rfl aQ.size (0:Int)) (k:=(k1-2)) zo (j:=0) zf zk) (aB za (aB (aS _ _ _) (aB (de za za za) av))))))))),?_⟩
   refine aF Tryz.call205 (eB (x1.getD (k1-2) 0) 19 zf hs39) ?_
   rintro v43 w44 ⟨rfl,hs42⟩
   refine⟨bw (n:=[.prop ((0:Int)<=10/\Int.fdiv (x1.getD (k1-2) 0) (2 ^ (min (Int.toNat 10) (IntKind.bits .u32)))=aM .u32 (x1.getD (k1-2) 0) 10),.cell ⟨b10,0+((k1-2)*1),none⟩ (.int .u32 (x1.getD (k1-2) 0)),.prop (0<=((k1-2:Nat):Int)/\((k1-2:Nat):Int)<(64:Int)),.prop (Value.pointer (some (Addr.add ⟨b10,0,none⟩ (Int.toNat (k1-2:Nat)*1)))=Value.pointer (some ⟨b10,0+((k1-2)*1),none⟩)),.prop (Value.int .i64 (IntKind.i64.wrap ((k1:Nat)-2))=Value.int .i64 (k1-2:Nat))]) zk (aB ⟨(by first|omega|exact bf rfl _),rfl⟩ (aG (ag.cC (au hs42 0 rfl aQ.size (0:Int)) (k:=(k1-2)) zo (j:=0) zf zk) (aB za (aB (aS _ _ _) (aB (de za za za) av))))),?_⟩
   refine En (aL (Lt (Dz ?_)))
   refine aE.aV [0,0,2,6,14,0,62,0,128,384,896,2046,0,8190,16383,32767] (.rd 0 (.rd 1 (.rd 2 (.rd 3 (.rd 4 (.rd 5 (.rd 6 (.rd 7 (.rd 8 (.rd 9 (.rd 10 (.rd 11 (.rd 12 (.rd 13 (.rd 14 (.ef 15 .done)))))))))))))))) zk zk ai zk hs42 ?_
   intro w45 hs46 hw47
   refine Zj (Hg 2 (.cI (.int .i64 (k1-16:Nat)) (.gen [])) [.prop (Value.int .i64 (IntKind.i64.wrap ((k1:Nat)-16))=Value.int .i64 (k1-16:Nat))] (aB (de za za za) av) (Hx 3 ((k1-16:Nat):Int) (64:Int) b10 0 1 (Hg 4 (.gen [.int .u32 (x1.getD (k1-16) 0)]) [.cell ⟨b10,0+((k1-16)*1),none⟩ (.int .u32 (x1.getD (k1-16) 0))] (aG (ag.cC (au hs46 0 rfl aQ.size (0:Int)) (k:=(k1-16)) zo (j:=0) zf zk) av) (Hg 8 (.cI (.int .i64 (k1-7:Nat)) (.gen [])) [.prop (Value.int .i64 (IntKind.i64.wrap ((k1:Nat)-7))=Value.int .i64 (k1-7:Nat))] (aB (de za za za) av) (Hx 9 ((k1-7:Nat):Int) (64:Int) b10 0 1 (Hg 10 (.gen [.int .u32 (x1.getD (k1-7) 0)]) [.cell ⟨b10,0+((k1-7)*1),none⟩ (.int .u32 (x1.getD (k1-7) 0))] (aG (ag.cC (au hs46 0 rfl aQ.size (0:Int)) (k:=(k1-7)) zo (j:=0) zf zk) av) (Hx 14 ((k1:Nat):Int) (64:Int) b10 0 1 Hz))))))) ?_
   refine ar.store rfl rfl zk (b:=b10) (off:=0+(k1*1)) (v:=.int .u32 (Ex k1 x1)) zk zk (ti:=Tryz.t296) zk hs46 0 rfl zk zk (by rw [Nat.zero_add];exact fH (f:=aN) (size:=1) (l:=x1) (k:=k1) aQ.size zo) (cs':=ae aN (jO k1 x1)) (L':=(ah b10 (ae aN (jO k1 x1)) 318)::ah b7 rD 297::ah b4 (ae af bl) 299::ah b1 (ae aN s) 297::L) (by rw [Nat.zero_add];exact eh (f:=aN) (size:=1) (l:=x1) (k:=k1) aQ.size zo (Ex k1 x1)) rfl ?_
   intro w48 hs49
   refine Lo (Ld (Lm (Lt (Dz ?_))))
   refine bj (cH 1 ((k1:Nat)+1) Hz) ?_
   exact aw.back (k1+1,x1.set k1 (Ex k1 x1)) [2,4,5,7] zk (by show 64-(k1+1)<64-k1;omega) ⟨⟨za,za,by rw [show k1+1-16=(k1-16)+1 by omega,cF,<- hpb.2.2.1,show k1-16+16=k1 by omega];rfl,by first|rfl|(simp only [List.length_set];omega)⟩,hs49⟩
  ·refine Zx (aw.da (aw.dc (aw.jR (Zt (Zs (?_))))))
   refine bL [1,2] (Hg 0 (.agg (ae aN s)) [.prop (Array.size (ae aN s)=8),.cells ⟨b1,0,none⟩ (ae aN s)] (aB (bt aQ (show(s).length=8 from zq) rfl) (dq (hs25.cells 3 0 rfl zG) av)) Hz) ?_
   refine ar.alloc rfl rfl zk (z:=.agg rD) zk hs25 (cs:=rD) zk ?_
   intro b50 w51 hs52
   refine Lo (Dz ?_)
   refine ar.store rfl rfl zk (b:=b50) (off:=0) (v:=.agg (ae aN s)) zk zk (ti:=Tryz.t297) zk hs52 0 rfl (bQ aQ (show(s).length=8 from zq) zk) (cX aQ) (cJ aQ (show(s).length=8 from zq) zk) (cs':=ae aN s) (L':=(ah b50 (ae aN s) 297)::ah b10 (ae aN x1) 318::ah b7 rD 297::ah b4 (ae af bl) 299::ah b1 (ae aN s) 297::L) (dz aQ (show(s).length=8 from zq) zk) rfl ?_
   intro w53 hs54
   refine Lo (Ld (Lt (Ls (Lg [0,1,2] (Dz ?_)))))
   refine aF Tryz.call206 (BR hs54) ?_
   rintro v56 w57 ⟨rfl,hs55⟩
   refine Lo (Dz ?_)
   refine ar.alloc rfl rfl zk (z:=.agg BS) zk hs55 (cs:=BS) zk ?_
   intro b58 w59 hs60
   refine Lo (Dz ?_)
   refine Zv (b:=b58) (off:=0) (v:=.agg CF) (ti:=Tryz.t318) zk hs60 0 (cs':=CF) ?_
   intro w61 hs62
   refine Lo (Ld (Lt (Ls (Ls (La (Lt (Lb (Dz ?_))))))))
   have hs63:St w0 (ah b58 (ae aN shaT) 318::ah b50 (ae aN s) 297::ah b10 (ae aN x1) 318::ah b7 rD 297::ah b4 (ae af bl) 299::ah b1 (ae aN s) 297::L) w61:=Eq.mp zk hs62
   refine aE.loop (T:=Nat×(List Int)) (λgg=>[(2,zP b1 0),(4,zP b7 0),(5,zP b10 0),(10,zP b50 0),(11,zP b58 0),(12,.int .i64 (gg.1:Nat))]) (λgg w=>(gg.1<=64/\gg.2=iter (iW x1) gg.1 s/\gg.2.length=8)/\St w0 (ah b58 (ae aN shaT) 318::ah b50 (ae aN gg.2) 297::ah b10 (ae aN x1) 318::ah b7 rD 297::ah b4 (ae af bl) 299::ah b1 (ae aN s) 297::L) w) (λgg=>64-gg.1) (0,s) [2,4,5,10,11,12] zk ⟨⟨Nat.le_of_ble_eq_true rfl,rfl,zq⟩,hs63⟩ ?_
   rintro⟨k2,x2⟩ w64 ⟨hpc0,hs65⟩
   have hpc:k2<=64/\x2=iter (iW x1) k2 s/\x2.length=8:=hpc0
   have hs66:St w0 (ah b58 (ae aN shaT) 318::ah b50 (ae aN x2) 297::ah b10 (ae aN x1) 318::ah b7 rD 297::ah b4 (ae af bl) 299::ah b1 (ae aN s) 297::L) w64:=hs65
   refine Zn [(2,zP b1 0),(4,zP b7 0),(5,zP b10 0),(10,zP b50 0),(11,zP b58 0),(12,.int .i64 (k2:Nat))] ?_
   refine En (Ls (Ls (La (Lt (Dz ?_)))))
   refine Zi (((k2:Nat):Int)<64) (λh67'=>?_) (λh67'=>?_)
   ·refine Zk (Zt (Zs (Zb (Zs (?_)))))
    refine bj (Hx 0 (4:Int) (8:Int) b50 0 1 (Hg 1 (.gen [.int .u32 (x2.getD 4 0)]) [.cell ⟨b50,4,none⟩ (.int .u32 (x2.getD 4 0))] (aG (ag.cC (au hs66 1 rfl aQ.size (0:Int)) (k:=4) zo (j:=0) zf zk) av) Hz)) ?_
    refine Zt (Zs (?_))
    refine bj (Hx 0 (0:Int) (8:Int) b50 0 1 (Hg 1 (.gen [.int .u32 (x2.getD 0 0)]) [.cell ⟨b50,0,none⟩ (.int .u32 (x2.getD 0 0))] (aG (ag.cC (au hs66 1 rfl aQ.size (0:Int)) (k:=0) zo (j:=0) zf zk) av) Hz)) ?_
    refine Zt (Zs (?_))
    refine aE.aV [0,1,0,4,0,28,60,0,188,508,1023,0,0,4096,14336,0,32768,0,131072,491520,1046528,2097151,0,4194304,12582912,33554431,0,67108864,201326592,536870911,1073741823] (.rd 0 (.rd 1 (.rd 2 (.rd 4 (.rd 7 (.rd 11 (.rd 12 (.rd 13 (.rd 14 (.rd 15 (.rd 16 (.rd 17 (.rd 18 (.rd 19 (.rd 20 (.rd 22 (.rd 23 (.rd 24 (.rd 26 (.rd 27 (.rd 28 (.ef 3 (.ef 5 (.rd 6 (.ef 8 (.rd 9 (.rd 10 (.rd 21 (.rd 25 (.rd 29 (.rd 30 .done))))))))))))))))))))))))))))))) zk zk ai zk hs66 ?_
    intro w68 hs69 hw70
    refine Zj (Hx 0 (7:Int) (8:Int) b50 0 1 (Hg 1 (.gen [.int .u32 (x2.getD 7 0)]) [.cell ⟨b50,7,none⟩ (.int .u32 (x2.getD 7 0))] (aG (ag.cC (au hs69 1 rfl aQ.size (0:Int)) (k:=7) zo (j:=0) zf zk) av) (Hx 12 (5:Int) (8:Int) b50 0 1 (Hg 13 (.gen [.int .u32 (x2.getD 5 0)]) [.cell ⟨b50,5,none⟩ (.int .u32 (x2.getD 5 0))] (aG (ag.cC (au hs69 1 rfl aQ.size (0:Int)) (k:=5) zo (j:=0) zf zk) av) (Hx 17 (6:Int) (8:Int) b50 0 1 (Hg 18 (.gen [.int .u32 (x2.getD 6 0)]) [.cell ⟨b50,6,none⟩ (.int .u32 (x2.getD 6 0))] (aG (ag.cC (au hs69 1 rfl aQ.size (0:Int)) (k:=6) zo (j:=0) zf zk) av) (Hx 23 ((k2:Nat):Int) (64:Int) b58 0 1 (Hg 24 (.gen [.int .u32 (shaT.getD k2 0)]) [.cell ⟨b58,0+(k2*1),none⟩ (.int .u32 (shaT.getD k2 0))] (aG (ag.cC (au hs69 0 rfl aQ.size (0:Int)) (k:=k2) zo (j:=0) zf zk) av) (Hx 27 ((k2:Nat):Int) (64:Int) b10 0 1 (Hg 28 (.gen [.int .u32 (x1.getD k2 0)]) [.cell ⟨b10,0+(k2*1),none⟩ (.int .u32 (x1.getD k2 0))] (aG (ag.cC (au hs69 2 rfl aQ.size (0:Int)) (k:=k2) zo (j:=0) zf zk) av) Hz)))))))))) ?_
    refine aF Tryz.call205 (eB (x2.getD 4 0) 6 zf hs69) ?_
    rintro v72 w73 ⟨rfl,hs71⟩
    refine⟨bw (n:=[.cell ⟨b10,0+(k2*1),none⟩ (.int .u32 (x1.getD k2 0)),.prop (0<=((k2:Nat):Int)/\((k2:Nat):Int)<(64:Int)),.prop (Value.pointer (some (Addr.add ⟨b10,0,none⟩ (Int.toNat (k2:Nat)*1)))=Value.pointer (some ⟨b10,0+(k2*1),none⟩)),.cell ⟨b58,0+(k2*1),none⟩ (.int .u32 (shaT.getD k2 0)),.prop (0<=((k2:Nat):Int)/\((k2:Nat):Int)<(64:Int)),.prop (Value.pointer (some (Addr.add ⟨b58,0,none⟩ (Int.toNat (k2:Nat)*1)))=Value.pointer (some ⟨b58,0+(k2*1),none⟩)),.cell ⟨b50,6,none⟩ (.int .u32 (x2.getD 6 0)),.prop (0<=(6:Int)/\(6:Int)<(8:Int)),.prop (Value.pointer (some (Addr.add ⟨b50,0,none⟩ (Int.toNat 6*1)))=Value.pointer (some ⟨b50,6,none⟩)),.cell ⟨b50,5,none⟩ (.int .u32 (x2.getD 5 0)),.prop (0<=(5:Int)/\(5:Int)<(8:Int)),.prop (Value.pointer (some (Addr.add ⟨b50,0,none⟩ (Int.toNat 5*1)))=Value.pointer (some ⟨b50,5,none⟩)),.cell ⟨b50,7,none⟩ (.int .u32 (x2.getD 7 0)),.prop (0<=(7:Int)/\(7:Int)<(8:Int)),.prop (Value.pointer (some (Addr.add ⟨b50,0,none⟩ (Int.toNat 7*1)))=Value.pointer (some ⟨b50,7,none⟩))]) zk (aG (ag.cC (au hs71 2 rfl aQ.size (0:Int)) (k:=k2) zo (j:=0) zf zk) (aB za (aB (aS _ _ _) (aG (ag.cC (au hs71 0 rfl aQ.size (0:Int)) (k:=k2) zo (j:=0) zf zk) (aB za (aB (aS _ _ _) (aG (ag.cC (au hs71 1 rfl aQ.size (0:Int)) (k:=6) zo (j:=0) zf zk) (aB za (aB (aS _ _ _) (aG (ag.cC (au hs71 1 rfl aQ.size (0:Int)) (k:=5) zo (j:=0) zf zk) (aB za (aB (aS _ _ _) (aG (ag.cC (au hs71 1 rfl aQ.size (0:Int)) (k:=7) zo (j:=0) zf zk) (aB za (aB (aS _ _ _) av))))))))))))))),?_⟩
    refine aF Tryz.call205 (eB (x2.getD 4 0) 11 zf hs71) ?_
    rintro v75 w76 ⟨rfl,hs74⟩
    refine⟨bw (n:=[.cell ⟨b10,0+(k2*1),none⟩ (.int .u32 (x1.getD k2 0)),.prop (0<=((k2:Nat):Int)/\((k2:Nat):Int)<(64:Int)),.prop (Value.pointer (some (Addr.add ⟨b10,0,none⟩ (Int.toNat (k2:Nat)*1)))=Value.pointer (some ⟨b10,0+(k2*1),none⟩)),.cell ⟨b58,0+(k2*1),none⟩ (.int .u32 (shaT.getD k2 0)),.prop (0<=((k2:Nat):Int)/\((k2:Nat):Int)<(64:Int)),.prop (Value.pointer (some (Addr.add ⟨b58,0,none⟩ (Int.toNat (k2:Nat)*1)))=Value.pointer (some ⟨b58,0+(k2*1),none⟩)),.cell ⟨b50,6,none⟩ (.int .u32 (x2.getD 6 0)),.prop (0<=(6:Int)/\(6:Int)<(8:Int)),.prop (Value.pointer (some (Addr.add ⟨b50,0,none⟩ (Int.toNat 6*1)))=Value.pointer (some ⟨b50,6,none⟩)),.cell ⟨b50,5,none⟩ (.int .u32 (x2.getD 5 0)),.prop (0<=(5:Int)/\(5:Int)<(8:Int)),.prop (Value.pointer (some (Addr.add ⟨b50,0,none⟩ (Int.toNat 5*1)))=Value.pointer (some ⟨b50,5,none⟩)),.cell ⟨b50,7,none⟩ (.int .u32 (x2.getD 7 0)),.prop (0<=(7:Int)/\(7:Int)<(8:Int)),.prop (Value.pointer (some (Addr.add ⟨b50,0,none⟩ (Int.toNat 7*1)))=Value.pointer (some ⟨b50,7,none⟩))]) zk (aG (ag.cC (au hs74 2 rfl aQ.size (0:Int)) (k:=k2) zo (j:=0) zf zk) (aB za (aB (aS _ _ _) (aG (ag.cC (au hs74 0 rfl aQ.size (0:Int)) (k:=k2) zo (j:=0) zf zk) (aB za (aB (aS _ _ _) (aG (ag.cC (au hs74 1 rfl aQ.size (0:Int)) (k:=6) zo (j:=0) zf zk) (aB za (aB (aS _ _ _) (aG (ag.cC (au hs74 1 rfl aQ.size (0:Int)) (k:=5) zo (j:=0) zf zk) (aB za (aB (aS _ _ _) (aG (ag.cC (au hs74 1 rfl aQ.size (0:Int)) (k:=7) zo (j:=0) zf zk) (aB za (aB (aS _ _ _) av))))))))))))))),?_⟩
    refine En (Lu (Dz ?_))
    refine aF Tryz.call205 (eB (x2.getD 4 0) 25 zf hs74) ?_
    rintro v78 w79 ⟨rfl,hs77⟩
    refine⟨bw (n:=[.cell ⟨b10,0+(k2*1),none⟩ (.int .u32 (x1.getD k2 0)),.prop (0<=((k2:Nat):Int)/\((k2:Nat):Int)<(64:Int)),.prop (Value.pointer (some (Addr.add ⟨b10,0,none⟩ (Int.toNat (k2:Nat)*1)))=Value.pointer (some ⟨b10,0+(k2*1),none⟩)),.cell ⟨b58,0+(k2*1),none⟩ (.int .u32 (shaT.getD k2 0)),.prop (0<=((k2:Nat):Int)/\((k2:Nat):Int)<(64:Int)),.prop (Value.pointer (some (Addr.add ⟨b58,0,none⟩ (Int.toNat (k2:Nat)*1)))=Value.pointer (some ⟨b58,0+(k2*1),none⟩)),.cell ⟨b50,6,none⟩ (.int .u32 (x2.getD 6 0)),.prop (0<=(6:Int)/\(6:Int)<(8:Int)),.prop (Value.pointer (some (Addr.add ⟨b50,0,none⟩ (Int.toNat 6*1)))=Value.pointer (some ⟨b50,6,none⟩)),.cell ⟨b50,5,none⟩ (.int .u32 (x2.getD 5 0)),.prop (0<=(5:Int)/\(5:Int)<(8:Int)),.prop (Value.pointer (some (Addr.add ⟨b50,0,none⟩ (Int.toNat 5*1)))=Value.pointer (some ⟨b50,5,none⟩)),.cell ⟨b50,7,none⟩ (.int .u32 (x2.getD 7 0)),.prop (0<=(7:Int)/\(7:Int)<(8:Int)),.prop (Value.pointer (some (Addr.add ⟨b50,0,none⟩ (Int.toNat 7*1)))=Value.pointer (some ⟨b50,7,none⟩))]) zk (aG (ag.cC (au hs77 2 rfl aQ.size (0:Int)) (k:=k2) zo (j:=0) zf zk) (aB za (aB (aS _ _ _) (aG (ag.cC (au hs77 0 rfl aQ.size (0:Int)) (k:=k2) zo (j:=0) zf zk) (aB za (aB (aS _ _ _) (aG (ag.cC (au hs77 1 rfl aQ.size (0:Int)) (k:=6) zo (j:=0) zf zk) (aB za (aB (aS _ _ _) (aG (ag.cC (au hs77 1 rfl aQ.size (0:Int)) (k:=5) zo (j:=0) zf zk) (aB za (aB (aS _ _ _) (aG (ag.cC (au hs77 1 rfl aQ.size (0:Int)) (k:=7) zo (j:=0) zf zk) (aB za (aB (aS _ _ _) av))))))))))))))),?_⟩
    refine En (aL (Lt (Ls (Dz ?_))))
    refine aE.aV [0,1,0,7,15,0,47,127,0,0,512,1792,0,0,8192,28672,65280,0,131072,0,524288,1966080,4194048,8388607,16777215] (.rd 0 (.rd 2 (.rd 5 (.rd 8 (.rd 9 (.rd 10 (.rd 11 (.rd 12 (.rd 13 (.rd 14 (.rd 15 (.rd 16 (.rd 17 (.rd 18 (.rd 19 (.rd 20 (.rd 21 (.rd 22 (.ef 1 (.ef 3 (.rd 4 (.ef 6 (.rd 7 (.rd 23 (.rd 24 .done))))))))))))))))))))))))) zk zk ai zk hs77 ?_
    intro w80 hs81 hw82
    refine Zj (Hx 9 (1:Int) (8:Int) b50 0 1 (Hg 10 (.gen [.int .u32 (x2.getD 1 0)]) [.cell ⟨b50,1,none⟩ (.int .u32 (x2.getD 1 0))] (aG (ag.cC (au hs81 1 rfl aQ.size (0:Int)) (k:=1) zo (j:=0) zf zk) av) (Hx 13 (2:Int) (8:Int) b50 0 1 (Hg 14 (.gen [.int .u32 (x2.getD 2 0)]) [.cell ⟨b50,2,none⟩ (.int .u32 (x2.getD 2 0))] (aG (ag.cC (au hs81 1 rfl aQ.size (0:Int)) (k:=2) zo (j:=0) zf zk) av) (Hx 17 (1:Int) (8:Int) b50 0 1 (Hg 18 (.gen [.int .u32 (x2.getD 1 0)]) [.cell ⟨b50,1,none⟩ (.int .u32 (x2.getD 1 0))] (aG (ag.cC (au hs81 1 rfl aQ.size (0:Int)) (k:=1) zo (j:=0) zf zk) av) (Hx 19 (2:Int) (8:Int) b50 0 1 (Hg 20 (.gen [.int .u32 (x2.getD 2 0)]) [.cell ⟨b50,2,none⟩ (.int .u32 (x2.getD 2 0))] (aG (ag.cC (au hs81 1 rfl aQ.size (0:Int)) (k:=2) zo (j:=0) zf zk) av) Hz)))))))) ?_
    refine aF Tryz.call205 (eB (x2.getD 0 0) 2 zf hs81) ?_
    rintro v84 w85 ⟨rfl,hs83⟩
    refine⟨bw (n:=[.cell ⟨b50,2,none⟩ (.int .u32 (x2.getD 2 0)),.prop (0<=(2:Int)/\(2:Int)<(8:Int)),.prop (Value.pointer (some (Addr.add ⟨b50,0,none⟩ (Int.toNat 2*1)))=Value.pointer (some ⟨b50,2,none⟩)),.cell ⟨b50,1,none⟩ (.int .u32 (x2.getD 1 0)),.prop (0<=(1:Int)/\(1:Int)<(8:Int)),.prop (Value.pointer (some (Addr.add ⟨b50,0,none⟩ (Int.toNat 1*1)))=Value.pointer (some ⟨b50,1,none⟩)),.cell ⟨b50,2,none⟩ (.int .u32 (x2.getD 2 0)),.prop (0<=(2:Int)/\(2:Int)<(8:Int)),.prop (Value.pointer (some (Addr.add ⟨b50,0,none⟩ (Int.toNat 2*1)))=Value.pointer (some ⟨b50,2,none⟩)),.cell ⟨b50,1,none⟩ (.int .u32 (x2.getD 1 0)),.prop (0<=(1:Int)/\(1:Int)<(8:Int)),.prop (Value.pointer (some (Addr.add ⟨b50,0,none⟩ (Int.toNat 1*1)))=Value.pointer (some ⟨b50,1,none⟩))]) zk (aG (ag.cC (au hs83 1 rfl aQ.size (0:Int)) (k:=2) zo (j:=0) zf zk) (aB za (aB (aS _ _ _) (aG (ag.cC (au hs83 1 rfl aQ.size (0:Int)) (k:=1) zo (j:=0) zf zk) (aB za (aB (aS _ _ _) (aG (ag.cC (au hs83 1 rfl aQ.size (0:Int)) (k:=2) zo (j:=0) zf zk) (aB za (aB (aS _ _ _) (aG (ag.cC (au hs83 1 rfl aQ.size (0:Int)) (k:=1) zo (j:=0) zf zk) (aB za (aB (aS _ _ _) av)))))))))))),?_⟩
    refine aF Tryz.call205 (eB (x2.getD 0 0) 13 zf hs83) ?_
    rintro v87 w88 ⟨rfl,hs86⟩
    refine⟨bw (n:=[.cell ⟨b50,2,none⟩ (.int .u32 (x2.getD 2 0)),.prop (0<=(2:Int)/\(2:Int)<(8:Int)),.prop (Value.pointer (some (Addr.add ⟨b50,0,none⟩ (Int.toNat 2*1)))=Value.pointer (some ⟨b50,2,none⟩)),.cell ⟨b50,1,none⟩ (.int .u32 (x2.getD 1 0)),.prop (0<=(1:Int)/\(1:Int)<(8:Int)),.prop (Value.pointer (some (Addr.add ⟨b50,0,none⟩ (Int.toNat 1*1)))=Value.pointer (some ⟨b50,1,none⟩)),.cell ⟨b50,2,none⟩ (.int .u32 (x2.getD 2 0)),.prop (0<=(2:Int)/\(2:Int)<(8:Int)),.prop (Value.pointer (some (Addr.add ⟨b50,0,none⟩ (Int.toNat 2*1)))=Value.pointer (some ⟨b50,2,none⟩)),.cell ⟨b50,1,none⟩ (.int .u32 (x2.getD 1 0)),.prop (0<=(1:Int)/\(1:Int)<(8:Int)),.prop (Value.pointer (some (Addr.add ⟨b50,0,none⟩ (Int.toNat 1*1)))=Value.pointer (some ⟨b50,1,none⟩))]) zk (aG (ag.cC (au hs86 1 rfl aQ.size (0:Int)) (k:=2) zo (j:=0) zf zk) (aB za (aB (aS _ _ _) (aG (ag.cC (au hs86 1 rfl aQ.size (0:Int)) (k:=1) zo (j:=0) zf zk) (aB za (aB (aS _ _ _) (aG (ag.cC (au hs86 1 rfl aQ.size (0:Int)) (k:=2) zo (j:=0) zf zk) (aB za (aB (aS _ _ _) (aG (ag.cC (au hs86 1 rfl aQ.size (0:Int)) (k:=1) zo (j:=0) zf zk) (aB za (aB (aS _ _ _) av)))))))))))),?_⟩
    refine En (Lu (Dz ?_))
    refine aF Tryz.call205 (eB (x2.getD 0 0) 22 zf hs86) ?_
    rintro v90 w91 ⟨rfl,hs89⟩
    refine⟨bw (n:=[.cell ⟨b50,2,none⟩ (.int .u32 (x2.getD 2 0)),.prop (0<=(2:Int)/\(2:Int)<(8:Int)),.prop (Value.pointer (some (Addr.add ⟨b50,0,none⟩ (Int.toNat 2*1)))=Value.pointer (some ⟨b50,2,none⟩)),.cell ⟨b50,1,none⟩ (.int .u32 (x2.getD 1 0)),.prop (0<=(1:Int)/\(1:Int)<(8:Int)),.prop (Value.pointer (some (Addr.add ⟨b50,0,none⟩ (Int.toNat 1*1)))=Value.pointer (some ⟨b50,1,none⟩)),.cell ⟨b50,2,none⟩ (.int .u32 (x2.getD 2 0)),.prop (0<=(2:Int)/\(2:Int)<(8:Int)),.prop (Value.pointer (some (Addr.add ⟨b50,0,none⟩ (Int.toNat 2*1)))=Value.pointer (some ⟨b50,2,none⟩)),.cell ⟨b50,1,none⟩ (.int .u32 (x2.getD 1 0)),.prop (0<=(1:Int)/\(1:Int)<(8:Int)),.prop (Value.pointer (some (Addr.add ⟨b50,0,none⟩ (Int.toNat 1*1)))=Value.pointer (some ⟨b50,1,none⟩))]) zk (aG (ag.cC (au hs89 1 rfl aQ.size (0:Int)) (k:=2) zo (j:=0) zf zk) (aB za (aB (aS _ _ _) (aG (ag.cC (au hs89 1 rfl aQ.size (0:Int)) (k:=1) zo (j:=0) zf zk) (aB za (aB (aS _ _ _) (aG (ag.cC (au hs89 1 rfl aQ.size (0:Int)) (k:=2) zo (j:=0) zf zk) (aB za (aB (aS _ _ _) (aG (ag.cC (au hs89 1 rfl aQ.size (0:Int)) (k:=1) zo (j:=0) zf zk) (aB za (aB (aS _ _ _) av)))))))))))),?_⟩
    refine En (aL (Lt (Dz ?_)))
    refine bL [20] (Hx 3 (0:Int) (8:Int) b50 0 1 (Hg 4 (.gen [.int .u32 (x2.getD 0 0)]) [.cell ⟨b50,0,none⟩ (.int .u32 (x2.getD 0 0))] (aG (ag.cC (au hs89 1 rfl aQ.size (0:Int)) (k:=0) zo (j:=0) zf zk) av) (Hx 5 (1:Int) (8:Int) b50 0 1 (Hg 6 (.gen [.int .u32 (x2.getD 1 0)]) [.cell ⟨b50,1,none⟩ (.int .u32 (x2.getD 1 0))] (aG (ag.cC (au hs89 1 rfl aQ.size (0:Int)) (k:=1) zo (j:=0) zf zk) av) (Hx 7 (2:Int) (8:Int) b50 0 1 (Hg 8 (.gen [.int .u32 (x2.getD 2 0)]) [.cell ⟨b50,2,none⟩ (.int .u32 (x2.getD 2 0))] (aG (ag.cC (au hs89 1 rfl aQ.size (0:Int)) (k:=2) zo (j:=0) zf zk) av) (Hx 9 (3:Int) (8:Int) b50 0 1 (Hg 10 (.gen [.int .u32 (x2.getD 3 0)]) [.cell ⟨b50,3,none⟩ (.int .u32 (x2.getD 3 0))] (aG (ag.cC (au hs89 1 rfl aQ.size (0:Int)) (k:=3) zo (j:=0) zf zk) av) (Hx 13 (4:Int) (8:Int) b50 0 1 (Hg 14 (.gen [.int .u32 (x2.getD 4 0)]) [.cell ⟨b50,4,none⟩ (.int .u32 (x2.getD 4 0))] (aG (ag.cC (au hs89 1 rfl aQ.size (0:Int)) (k:=4) zo (j:=0) zf zk) av) (Hx 15 (5:Int) (8:Int) b50 0 1 (Hg 16 (.gen [.int .u32 (x2.getD 5 0)]) [.cell ⟨b50,5,none⟩ (.int .u32 (x2.getD 5 0))] (aG (ag.cC (au hs89 1 rfl aQ.size (0:Int)) (k:=5) zo (j:=0) zf zk) av) (Hx 17 (6:Int) (8:Int) b50 0 1 (Hg 18 (.gen [.int .u32 (x2.getD 6 0)]) [.cell ⟨b50,6,none⟩ (.int .u32 (x2.getD 6 0))] (aG (ag.cC (au hs89 1 rfl aQ.size (0:Int)) (k:=6) zo (j:=0) zf zk) av) Hz)))))))))))))) ?_
    refine ar.store rfl rfl zk (b:=b50) (off:=0) (v:=.agg (ae aN (iW x1 k2 x2))) zk zk (ti:=Tryz.t297) zk hs89 1 rfl (bQ aQ (show((iW x1 k2 x2):List Int).length=8 from rfl) zk) (cX aQ) (cJ aQ (show((iW x1 k2 x2):List Int).length=8 from rfl) (by rw [bt aQ (show(x2).length=8 from zq) (m:=8) rfl];rfl)) (cs':=ae aN (iW x1 k2 x2)) (L':=(ah b58 (ae aN shaT) 318)::ah b50 (ae aN (iW x1 k2 x2)) 297::ah b10 (ae aN x1) 318::ah b7 rD 297::ah b4 (ae af bl) 299::ah b1 (ae aN s) 297::L) (dz aQ (show((iW x1 k2 x2):List Int).length=8 from rfl) (by rw [bt aQ (show(x2).length=8 from zq) (m:=8) rfl];rfl)) rfl ?_
    intro w92 hs93
    refine Lo (Ld (Lm (Lt (Dz ?_))))
    refine bj (cH 1 ((k2:Nat)+1) Hz) ?_
    exact aw.back (k2+1,(iW x1 k2 x2)) [2,4,5,10,11,12] zk (by show 64-(k2+1)<64-k2;omega) ⟨⟨za,by rw [cF,<- hpc.2.1],by first|rfl|(simp only [List.length_set];omega)⟩,hs93⟩
   ·refine En (Lx (gv (gw (Lh (Lt (Ls (Ls (La (Lt (Lb (Dz ?_)))))))))))
    refine aE.loop (T:=Nat×(List Int)) (λgg=>[(2,zP b1 0),(4,zP b7 0),(10,zP b50 0),(17,.int .i64 (gg.1:Nat))]) (λgg w=>(gg.1<=8/\gg.2=iter (xj s) gg.1 (lu s bl)/\gg.2.length=8)/\St w0 (ah b58 (ae aN shaT) 318::ah b50 (ae aN gg.2) 297::ah b10 (ae aN x1) 318::ah b7 rD 297::ah b4 (ae af bl) 299::ah b1 (ae aN s) 297::L) w) (λgg=>8-gg.1) (0,x2) [2,4,10,17] zk ⟨⟨Nat.le_of_ble_eq_true rfl,(by rw [hpc.2.1,show k2=64 by omega,hpb.2.2.1,show k1=64 by omega];rfl),zq⟩,hs66⟩ ?_
    rintro⟨k3,x3⟩ w94 ⟨hpd0,hs95⟩
    have hpd:k3<=8/\x3=iter (xj s) k3 (lu s bl)/\x3.length=8:=hpd0
    have hs96:St w0 (ah b58 (ae aN shaT) 318::ah b50 (ae aN x3) 297::ah b10 (ae aN x1) 318::ah b7 rD 297::ah b4 (ae af bl) 299::ah b1 (ae aN s) 297::L) w94:=hs95
    refine Zn [(2,zP b1 0),(4,zP b7 0),(10,zP b50 0),(17,.int .i64 (k3:Nat))] ?_
    refine En (Ls (Ls (La (Lt (Dz ?_)))))
    refine Zi (((k3:Nat):Int)<8) (λh97'=>?_) (λh97'=>?_)
    ·refine Zk (Zt (Zs (Zb (?_))))
     refine aE.aV [0,0,2,6,0,16,48,126,255,511] (.rd 0 (.rd 1 (.rd 2 (.rd 3 (.rd 4 (.rd 5 (.rd 6 (.rd 7 (.rd 8 (.ef 9 .done)))))))))) zk zk ai zk hs96 ?_
     intro w98 hs99 hw100
     refine Zj (Hx 2 ((k3:Nat):Int) (8:Int) b50 0 1 (Hg 3 (.gen [.int .u32 (x3.getD k3 0)]) [.cell ⟨b50,0+(k3*1),none⟩ (.int .u32 (x3.getD k3 0))] (aG (ag.cC (au hs99 1 rfl aQ.size (0:Int)) (k:=k3) zo (j:=0) zf zk) av) (Hx 5 ((k3:Nat):Int) (8:Int) b1 0 1 (Hg 6 (.gen [.int .u32 (s.getD k3 0)]) [.cell ⟨b1,0+(k3*1),none⟩ (.int .u32 (s.getD k3 0))] (aG (ag.cC (au hs99 5 rfl aQ.size (0:Int)) (k:=k3) zo (j:=0) zf zk) av) (Hx 8 ((k3:Nat):Int) (8:Int) b50 0 1 Hz))))) ?_
     refine ar.store rfl rfl zk (b:=b50) (off:=0+(k3*1)) (v:=.int .u32 (IntKind.u32.wrap ((x3.getD k3 0)+(s.getD k3 0)))) zk zk (ti:=Tryz.t296) zk hs99 1 rfl zk zk (by rw [Nat.zero_add];exact fH (f:=aN) (size:=1) (l:=x3) (k:=k3) aQ.size zo) (cs':=ae aN (x3.set k3 (IntKind.u32.wrap ((x3.getD k3 0)+(s.getD k3 0))))) (L':=(ah b58 (ae aN shaT) 318)::ah b50 (ae aN (x3.set k3 (IntKind.u32.wrap ((x3.getD k3 0)+(s.getD k3 0))))) 297::ah b10 (ae aN x1) 318::ah b7 rD 297::ah b4 (ae af bl) 299::ah b1 (ae aN s) 297::L) (by rw [Nat.zero_add];exact eh (f:=aN) (size:=1) (l:=x3) (k:=k3) aQ.size zo (IntKind.u32.wrap ((x3.getD k3 0)+(s.getD k3 0)))) rfl ?_
     intro w101 hs102
     refine Lo (Ld (Lm (Lt (Dz ?_))))
     refine bj (cH 1 ((k3:Nat)+1) Hz) ?_
     exact aw.back (k3+1,x3.set k3 (IntKind.u32.wrap ((x3.getD k3 0)+(s.getD k3 0)))) [2,4,10,17] zk (by show 8-(k3+1)<8-k3;omega) ⟨⟨za,by rw [cF,<- hpd.2.1];rfl,by first|rfl|(simp only [List.length_set];omega)⟩,hs102⟩
    ·refine Zx (aw.da (aw.dc (aw.jR (Zt (Zs (?_))))))
     refine bL [1] (Hg 0 (.agg (ae aN x3)) [.prop (Array.size (ae aN x3)=8),.cells ⟨b50,0,none⟩ (ae aN x3)] (aB (bt aQ (show(x3).length=8 from zq) rfl) (dq (hs96.cells 1 0 rfl zG) av)) Hz) ?_
     refine ar.store rfl rfl zk (b:=b7) (off:=0) (v:=.agg (ae aN x3)) zk zk (ti:=Tryz.t297) zk hs96 3 rfl (bQ aQ (show(x3).length=8 from zq) zk) (cX aQ) (cJ aQ (show(x3).length=8 from zq) zk) (cs':=ae aN x3) (L':=(ah b58 (ae aN shaT) 318)::ah b50 (ae aN x3) 297::ah b10 (ae aN x1) 318::ah b7 (ae aN x3) 297::ah b4 (ae af bl) 299::ah b1 (ae aN s) 297::L) (dz aQ (show(x3).length=8 from zq) zk) rfl ?_
     intro w103 hs104
     refine Lo (Ld (Lt (Le (Dz ?_))))
     refine aw.done (.inl rfl) (v:=.agg (ae aN x3)) (λa hf=>ct rfl zk (ti:=Tryz.t297) zk zk (vs:=ae aN x3) (bt aQ (show(x3).length=8 from zq) zk) (hs104.cells 3 0 rfl zG) a hf) ?_
     have hs105:=hs104.dr 6
     exact⟨(by rw [hpd.2.1,show k3=8 by omega];rfl),hs105⟩
end Go.Proofs.YtdaohdehpmgfdaaGreatDoor
namespace Go.Proofs.YtdaohdehpmgfdaaGreatDoor
open Go.RowKit Go.Sx
set_option linter.unusedVariables false
set_option linter.unusedSimpArgs false
set_option maxRecDepth 100000
theorem yq {p ys:List Int}{n:Nat}{x:Int}(hp:p.length=64) (h:n+ys.length<64):bH (bH p n ys) (n+ys.length) [x]=bH p n (ys++[x]):=by
 have h0:(p.take n++ys).length=n+ys.length:=by rw [List.length_append,List.length_take];omega
 unfold bH
 rw [List.take_left' h0,<- List.drop_drop,List.drop_left' h0,List.drop_drop,List.length_append]
 simp only [List.append_assoc,Nat.add_assoc]
def um (h:HS) (x:Int):HS:=fK h [x]
theorem AF {s p:List Int}{n:Nat}(x:Int) (h:n<64):um (s,p,n) x=if n+1=64 then (bZ s (bH p n [x]),bH p n [x],0) else (s,bH p n [x],n+1):=by
 have hk:nd (s,p,n) [x]=1:=by unfold nd;simp only [List.length_cons,List.length_nil];omega
 unfold um fK jq
 rw [hk]
 rfl
theorem vy {h:HS}(ok:kI h) (x:Int):kI (um h x):=fS ok _
theorem vz {l:List Int}:∀ {h:HS},kI h->kI (l.foldl um h):=by
 induction l with
 | nil=>exact λok=>ok
 | cons x l ih=>exact λok=>ih (vy ok x)
theorem rE {s p:List Int}{n:Nat}(hp:p.length=64) (hn:n<64) (l:List Int):∀ k,k<l.length->n+k<64->(l.take (k+1)).foldl um (s,p,n)=if n+(k+1)=64 then (bZ s (bH p n (l.take (k+1))),bH p n (l.take (k+1)),0) else (s,bH p n (l.take (k+1)),n+(k+1))
 | 0,hk,_=>by
  rw [bh (d:=(0:Int)) hk,List.take_zero,List.nil_append,List.foldl_cons,List.foldl_nil,AF _ hn]
 | k+1,hk,h=>by
  rw [bh (d:=(0:Int)) hk,List.foldl_append,rE hp hn l k za za,if_neg za,List.foldl_cons,List.foldl_nil,AF _ za]
  have h0:(l.take (k+1)).length=k+1:=by rw [List.length_take];omega
  have e:=yq (x:=l.getD (k+1) 0) (ys:=l.take (k+1)) (n:=n) hp za
  rw [h0] at e
  rw [e]
  simp only [Nat.add_assoc]
theorem yr {h:HS}(ok:kI h){l:List Int}(hl:0<l.length):fK h l=(l.take (nd h l)).foldl um h:=by
 obtain⟨s,p,n⟩:=h
 have hn:n<64:=ok.n
 have hk:nd (s,p,n) l=min l.length (64-n):=rfl
 obtain⟨k,hk1⟩:∃ k,nd (s,p,n) l=k+1:=⟨nd (s,p,n) l-1,za⟩
 have e:=rE (s:=s) ok.part hn l k za za
 rw [hk1,e]
 unfold fK jq
 rw [hk1]
theorem th:∀ (f:Nat){h:HS}{l:List Int},kI h->l.length<=f->ic h l=l.foldl um h
 | f,h,[],ok,_=>xi zG
 | 0,h,x::l,_,hf=>by simp at hf
 | f+1,h,x::l,ok,hf=>by
  have hk:1<=nd h (x::l):=by unfold nd;have:=ok.n;simp only [List.length_cons];omega
  rw [oq ok zG,th f (fS ok _) zO,yr ok zG,<- List.foldl_append,List.take_append_drop]
theorem oA {h:HS}(ok:kI h) (l:List Int):ic h l=l.foldl um h:=th l.length ok (Nat.le_refl _)
def oW (m:List Int) (k:Nat):List Int:=(m.drop (64*k)).take 64
def tj (m:List Int) (k:Nat) (s:List Int):List Int:=iter (λi s=>bZ s (oW m i)) k s
theorem AG {s p c:List Int}(hp:p.length=64) (hc:c.length=64):c.foldl um (s,p,0)=(bZ s c,c,0):=by
 have h:=rE (s:=s) hp (show 0<64 by omega) c 63 za za
 rw [List.take_of_length_le za,if_pos rfl] at h
 have e:bH p 0 c=c:=by unfold bH;rw [List.take_zero,List.nil_append,List.drop_of_length_le za,List.append_nil]
 rw [h,e]
theorem qu {m s p:List Int}(hp:p.length=64):∀ k,64*k<=m.length->∃ p',p'.length=64/\(m.take (64*k)).foldl um (s,p,0)=(tj m k s,p',0)
 | 0,_=>⟨p,hp,by rw [Nat.mul_zero,List.take_zero];rfl⟩
 | k+1,h=>by
  obtain⟨p',h1,h2⟩:=qu (m:=m) (s:=s) hp k za
  have hb:(oW m k).length=64:=by unfold oW;rw [List.length_take,List.length_drop];omega
  refine⟨oW m k,hb,?_⟩
  rw [show 64*(k+1)=64*k+64 by omega,List.take_add,List.foldl_append,h2]
  exact AG h1 hb
theorem qv:∀ (f:Nat){h:HS},kI h->CX f h=(List.replicate f (0:Int)).foldl um h
 | 0,h,_=>rfl
 | f+1,h,ok=>(qv f (vy ok 0):_)
def iX (n:Int) (y:Nat):List Int:=(List.range y).map (vj n)
theorem oB (n:Int) (y:Nat):iX n (y+1)=iX n y++[vj n y]:=by
 unfold iX
 rw [List.range_succ,List.map_append]
 rfl
theorem qw (n:Int){h:HS}:∀ y,vk n y h=(iX n y).foldl um h
 | 0=>rfl
 | y+1=>by
  rw [qp,oB,List.foldl_append,<- qw n y]
  rfl
theorem DE {l:List Int}:∀ {h:HS},kI h->(l.foldl um h).2.2=(h.2.2+l.length) % 64:=by
 induction l with
 | nil=>exact λ{h} ok=>(Nat.mod_eq_of_lt ok.n).symm
 | cons x l ih =>
  intro h ok
  have h1:=lY ok x
  have h2:=ok.n
  rw [List.foldl_cons,ih (vy ok x),show(um h x).2.2=_ from h1,List.length_cons]
  split<;>omega
def mc (l:List Int):List Int:=(l++[128])++List.replicate ((120-(l.length+1) % 64) % 64) 0
def allM (l:List Int):List Int:=mc l++iX (IntKind.u64.wrap ((l.length:Int)*8)) 8
theorem tl (l:List Int):(mc l).length=l.length+1+(120-(l.length+1) % 64) % 64:=by
 unfold mc
 simp only [List.length_append,List.length_cons,List.length_nil,List.length_replicate]
theorem rF (n:Int) (y:Nat):(iX n y).length=y:=by unfold iX;rw [List.length_map,List.length_range]
theorem mG (l:List Int):(allM l).length=l.length+1+(120-(l.length+1) % 64) % 64+8:=by
 unfold allM
 rw [List.length_append,tl,rF]
theorem vA {n:Nat}(h:n<1000000000000000000):IntKind.u64.wrap (0+(IntKind.u64.wrap (n:Nat)))=(n:Nat):=by
 show(0+(n:Int) % 18446744073709551616) % 18446744073709551616=_
 omega
theorem BT {l:List Int}(hl:l.length<1000000000000000000):dx l=pw (tj (allM l) ((allM l).length / 64) gl) 8:=by
 have hz:=mG l
 have hk:64*((allM l).length / 64)=(allM l).length:=za
 obtain⟨p',h1,h2⟩:=qu (m:=allM l) (s:=gl) (p:=List.replicate 64 0) (by rw [List.length_replicate]) _ (Nat.le_of_eq hk)
 rw [hk,List.take_length] at h2
 unfold dx lj
 rw [vA hl,qw,oA dA,oA (vz dA)]
 unfold pad
 have h3:((l++[128]).foldl um ta).2.2=(l.length+1) % 64:=by
  rw [DE dA,List.length_append]
  show(0+(l.length+1)) % 64=_
  rw [Nat.zero_add]
 rw [<- List.foldl_append,qv _ (vz dA),h3,<- List.foldl_append,<- List.foldl_append]
 have h4:(allM l).foldl um ta=(tj (allM l) ((allM l).length / 64) gl,p',0):=h2
 unfold allM mc at h4 ⊢
 rw [<- List.append_assoc (l++[128]),h4]
theorem BU {h:HS}(ok:kI h) (a b:List Int):ic (ic h a) b=ic h (a++b):=by
 rw [oA ok,oA (vz ok),oA ok,List.foldl_append]
end Go.Proofs.YtdaohdehpmgfdaaGreatDoor
namespace Go.Proofs.YtdaohdehpmgfdaaGreatDoor
open Go.RowKit Go.Sx
set_option linter.unusedVariables false
set_option linter.unusedSimpArgs false
set_option linter.unnecessarySimpa false
set_option maxRecDepth 100000
theorem fb (k:IntKind) (a b:Int):fV k a b=fV k b a:=by
 unfold fV
 rw [BitVec.or_comm]
theorem DF (x:Int):fC x 2=bJ x 2:=fb .u32 (aM .u32 x 2) (bV .u32 x 30)
theorem DG (x:Int):fC x 6=bJ x 6:=fb .u32 (aM .u32 x 6) (bV .u32 x 26)
theorem DH (x:Int):fC x 7=bJ x 7:=fb .u32 (aM .u32 x 7) (bV .u32 x 25)
theorem Co (x:Int):fC x 11=bJ x 11:=fb .u32 (aM .u32 x 11) (bV .u32 x 21)
theorem Cp (x:Int):fC x 13=bJ x 13:=fb .u32 (aM .u32 x 13) (bV .u32 x 19)
theorem Cq (x:Int):fC x 17=bJ x 17:=fb .u32 (aM .u32 x 17) (bV .u32 x 15)
theorem Cr (x:Int):fC x 18=bJ x 18:=fb .u32 (aM .u32 x 18) (bV .u32 x 14)
theorem Ct (x:Int):fC x 19=bJ x 19:=fb .u32 (aM .u32 x 19) (bV .u32 x 13)
theorem Cu (x:Int):fC x 22=bJ x 22:=fb .u32 (aM .u32 x 22) (bV .u32 x 10)
theorem Cv (x:Int):fC x 25=bJ x 25:=fb .u32 (aM .u32 x 25) (bV .u32 x 7)
theorem vB {A B i:Nat}(hB:B<2 ^ i) (h:2 ^ i*A+B<4294967296):fV .u32 ((2 ^ i*A:Nat):Int) ((B:Nat):Int)=((2 ^ i*A+B:Nat):Int):=by
 show IntKind.u32.wrap (((BitVec.ofInt 32 ((2 ^ i*A:Nat):Int) ||| BitVec.ofInt 32 ((B:Nat):Int)).toNat:Nat):Int)=_
 rw [BitVec.ofInt_natCast,BitVec.ofInt_natCast,BitVec.toNat_or,BitVec.toNat_ofNat,BitVec.toNat_ofNat,Nat.mod_eq_of_lt za,Nat.mod_eq_of_lt za,<- Nat.two_pow_add_eq_or_of_lt hB A]
 show((2 ^ i*A+B:Nat):Int) % 4294967296=_
 omega
theorem qx {A i:Nat}(hi:i<=32) (h:2 ^ i*A<4294967296):bV .u32 ((A:Nat):Int) ((i:Nat):Int)=((2 ^ i*A:Nat):Int):=by
 show IntKind.u32.wrap ((A:Int)*2 ^ (min (Int.toNat (i:Int)) 32))=_
 rw [Int.toNat_natCast,Nat.min_eq_left hi,show((A:Int)*2 ^ i)=((2 ^ i*A:Nat):Int) by rw [Int.natCast_mul,Int.natCast_pow,Int.mul_comm];rfl]
 show((2 ^ i*A:Nat):Int) % 4294967296=_
 omega
theorem BV {a b c d:Int}(ha:0<=a/\a<256) (hb:0<=b/\b<256) (hc:0<=c/\c<256) (hd:0<=d/\d<256):fV .u32 (bV .u32 (fV .u32 (bV .u32 (fV .u32 (bV .u32 (fV .u32 (bV .u32 0 8) a) 8) b) 8) c) 8) d=fV .u32 (fV .u32 (fV .u32 (bV .u32 a 24) (bV .u32 b 16)) (bV .u32 c 8)) d:=by
 obtain⟨a,rfl⟩:∃ n:Nat,a=n:=⟨a.toNat,za⟩
 obtain⟨b,rfl⟩:∃ n:Nat,b=n:=⟨b.toNat,za⟩
 obtain⟨c,rfl⟩:∃ n:Nat,c=n:=⟨c.toNat,za⟩
 obtain⟨d,rfl⟩:∃ n:Nat,d=n:=⟨d.toNat,za⟩
 have e0:fV .u32 (bV .u32 0 8) (a:Int)=(a:Int):=by
  rw [show bV .u32 0 8=((2 ^ 8*0:Nat):Int) from rfl,vB za za]
  omega
 have s1:=qx (A:=a) (i:=8) za za
 have o1:=vB (A:=a) (B:=b) (i:=8) za za
 have s2:=qx (A:=2 ^ 8*a+b) (i:=8) za za
 have o2:=vB (A:=2 ^ 8*a+b) (B:=c) (i:=8) za za
 have s3:=qx (A:=2 ^ 8*(2 ^ 8*a+b)+c) (i:=8) za za
 have o3:=vB (A:=2 ^ 8*(2 ^ 8*a+b)+c) (B:=d) (i:=8) za za
 have t1:=qx (A:=a) (i:=24) za za
 have t2:=qx (A:=b) (i:=16) za za
 have t3:=qx (A:=c) (i:=8) za za
 have p1:=vB (A:=a) (B:=2 ^ 16*b) (i:=24) za za
 have p2:=vB (A:=2 ^ 8*a+b) (B:=2 ^ 8*c) (i:=16) za za
 have p3:=vB (A:=2 ^ 8*(2 ^ 8*a+b)+c) (B:=d) (i:=8) za za
 rw [show(8:Int)=((8:Nat):Int) from rfl,show(24:Int)=((24:Nat):Int) from rfl,show(16:Int)=((16:Nat):Int) from rfl]
 rw [show((8:Nat):Int)=(8:Int) from rfl,e0,show(8:Int)=((8:Nat):Int) from rfl,s1,o1,s2,o2,s3,o3,t1,t2,t3,p1,show 2 ^ 24*a+2 ^ 16*b=2 ^ 16*(2 ^ 8*a+b) by omega,p2,show 2 ^ 16*(2 ^ 8*a+b)+2 ^ 8*c=2 ^ 8*(2 ^ 8*(2 ^ 8*a+b)+c) by omega,p3]
def eW (bl:List Int) (k:Nat):Int:=fV .u32 (bV .u32 (fV .u32 (bV .u32 (fV .u32 (bV .u32 (fV .u32 (bV .u32 0 8) (IntKind.u32.wrap (bl.getD (4*k) 0))) 8) (IntKind.u32.wrap (bl.getD (4*k+1) 0))) 8) (IntKind.u32.wrap (bl.getD (4*k+2) 0))) 8) (IntKind.u32.wrap (bl.getD (4*k+3) 0))
def fW (bl:List Int) (k:Nat):Int:=fV .u32 (fV .u32 (fV .u32 (bV .u32 (IntKind.u32.wrap (bl.getD (4*k) 0)) 24) (bV .u32 (IntKind.u32.wrap (bl.getD (4*k+1) 0)) 16)) (bV .u32 (IntKind.u32.wrap (bl.getD (4*k+2) 0)) 8)) (IntKind.u32.wrap (bl.getD (4*k+3) 0))
theorem vC (bl:List Int):jn bl=(List.range 16).map (eW bl)++List.replicate 48 0:=zk
theorem tn (bl:List Int):lr bl=(List.range 16).map (fW bl)++List.replicate 48 0:=zk
theorem vD {bl:List Int}(h:∀ z∈bl,0<=z/\z<256) (hl:bl.length=64):lr bl=jn bl:=by
 rw [vC,tn]
 congr 1
 refine List.map_congr_left λk hk=>?_
 have hk':k<16:=List.mem_range.1 hk
 have hz:∀ j,j<64->(0<=bl.getD j 0/\bl.getD j 0<256)/\IntKind.u32.wrap (bl.getD j 0)=bl.getD j 0:=λj hj=>by
  have h1:=h _ (eF (d:=(0:Int)) (l:=bl) (k:=j) za)
  refine⟨h1,?_⟩
  show bl.getD j 0 % 4294967296=_
  omega
 unfold fW eW
 rw [(hz _ za).2,(hz (4*k+1) za).2,(hz (4*k+2) za).2,(hz (4*k+3) za).2]
 exact(BV (hz _ za).1 (hz _ za).1 (hz _ za).1 (hz _ za).1).symm
theorem oC {α:Type}{f g:Nat->α->α}(h:∀ n a,f n a=g n a) (a:α):∀ n,iter f n a=iter g n a
 | 0=>rfl
 | n+1=>by rw [cF,cF,oC h a n,h]
theorem vE {bl:List Int}(h:∀ z∈bl,0<=z/\z<256) (hl:bl.length=64):rB bl=eX bl:=by
 unfold rB eX
 rw [vD h hl]
 exact oC (λn a=>by unfold jO lX;simp only [DF,DG,DH,Co,Cp,Cq,Cr,Ct,Cu,Cv]) _ 48
theorem yt {l:List Int}(h:l.length=8):l=[l.getD 0 0,l.getD 1 0,l.getD 2 0,l.getD 3 0,l.getD 4 0,l.getD 5 0,l.getD 6 0,l.getD 7 0]:=by
 have h2:=AB l
 rw [h] at h2
 exact h2
theorem mH (ws:List Int) (t:T8):∀ k,iter (iW ws) k (mC t)=mC (iter (sX ws) k t)
 | 0=>rfl
 | k+1=>by
  rw [cF,cF,mH ws t k]
  generalize iter (sX ws) k t=u
  unfold iW sX
  simp only [DF,DG,DH,Co,Cp,Cq,Cr,Ct,Cu,Cv]
  rfl
theorem vF {s bl:List Int}(hs:s.length=8) (h:∀ z∈bl,0<=z/\z<256) (hl:bl.length=64):rC s bl=bZ s bl:=by
 unfold rC bZ lu
 rw [vE h hl]
 have e:s=mC (s.getD 0 0,s.getD 1 0,s.getD 2 0,s.getD 3 0,s.getD 4 0,s.getD 5 0,s.getD 6 0,s.getD 7 0):=yt hs
 generalize hT:(s.getD 0 0,s.getD 1 0,s.getD 2 0,s.getD 3 0,s.getD 4 0,s.getD 5 0,s.getD 6 0,s.getD 7 0)=t at e ⊢
 rw [e,mH]
 generalize iter (sX (eX bl)) 64 t=u
 have q1:iter (xj (mC t)) 8 (mC u)=[IntKind.u32.wrap (u.1+t.1),IntKind.u32.wrap (u.2.1+t.2.1),IntKind.u32.wrap (u.2.2.1+t.2.2.1),IntKind.u32.wrap (u.2.2.2.1+t.2.2.2.1),IntKind.u32.wrap (u.2.2.2.2.1+t.2.2.2.2.1),IntKind.u32.wrap (u.2.2.2.2.2.1+t.2.2.2.2.2.1),IntKind.u32.wrap (u.2.2.2.2.2.2.1+t.2.2.2.2.2.2.1),IntKind.u32.wrap (u.2.2.2.2.2.2.2+t.2.2.2.2.2.2.2)]:=rfl
 have q2:iter (yk (mC u)) 8 (mC t)=[IntKind.u32.wrap (t.1+u.1),IntKind.u32.wrap (t.2.1+u.2.1),IntKind.u32.wrap (t.2.2.1+u.2.2.1),IntKind.u32.wrap (t.2.2.2.1+u.2.2.2.1),IntKind.u32.wrap (t.2.2.2.2.1+u.2.2.2.2.1),IntKind.u32.wrap (t.2.2.2.2.2.1+u.2.2.2.2.2.1),IntKind.u32.wrap (t.2.2.2.2.2.2.1+u.2.2.2.2.2.2.1),IntKind.u32.wrap (t.2.2.2.2.2.2.2+u.2.2.2.2.2.2.2)]:=rfl
 rw [q1,q2]
 simp only [Int.add_comm]
theorem rG {w0 w:World}{L:List aI}(s:List Int) (bl:List Int) (hs8:s.length=8) (hb:bl.length=64) (hbb:∀ z∈bl,0<=z/\z<256) (hs:St w0 L w) :
 Calls Tryz.prog 187 #[.agg (ae aN s),.agg (ae af bl)] w (aZ λrv w'=>rv=.agg (ae aN (bZ s bl))/\St w0 L w'):=by
 rw [<- vF hs8 hbb hb]
 exact tf s bl hs8 hb hs
def rH (q:List Int):List Int:=q++List.replicate ((120-q.length % 64) % 64) 0
theorem yu (l:List Int):rH (l++[128])=mc l:=by
 unfold rH mc
 rw [List.length_append]
 rfl
theorem yv {q:List Int}(h:q.length % 64≠56):rH (q++[0])=rH q:=by
 unfold rH
 rw [List.length_append,List.append_assoc,show(120-q.length % 64) % 64=(120-(q.length+[(0:Int)].length) % 64) % 64+1 by simp only [List.length_cons,List.length_nil];omega,List.replicate_succ]
 rfl
theorem AH {q:List Int}(h:q.length % 64=56):rH q=q:=by
 unfold rH
 rw [h]
 exact List.append_nil q
theorem vG {l:List Int}{y:Nat}{z:Int}(hl:l.length<=100000) (hy:y<8) (hz:z=7-(y:Nat)):iX (IntKind.u64.wrap ((l.length:Int)*8)) y++[IntKind.u8.wrap (aM .u64 (IntKind.u64.wrap ((IntKind.u64.wrap (l.length:Nat))*8)) (IntKind.u64.wrap (8*z)))]=iX (IntKind.u64.wrap ((l.length:Int)*8)) (y+1):=by
 rw [oB]
 unfold vj
 rw [show IntKind.u64.wrap (l.length:Nat)=(l.length:Nat) from gK za za,show IntKind.u64.wrap (8*z)=8*(7-(y:Int)) from by rw [gK za za,hz]]
theorem AJ {l:List Int}(h:∀ z∈l,0<=z/\z<256):∀ z∈allM l,0<=z/\z<256:=by
 intro z hz
 unfold allM mc iX at hz
 simp only [List.mem_append,List.mem_cons,List.not_mem_nil,or_false,List.mem_replicate,List.mem_map] at hz
 rcases hz with((hz|rfl)|⟨-,rfl⟩)|⟨y,-,rfl⟩
 ·exact h z hz
 ·omega
 ·omega
 ·unfold vj
  show 0<=(_:Int) % 256/\(_:Int) % 256<256
  omega
def DI (q:List Int) (m2 k3:Nat) (x3s:List Int):List Int:=x3s.set k3 (q.getD (m2+k3) 0)
theorem xk {q:List Int}{m:Nat}(h:m+64<=q.length):∀ k,k<=64->iter (DI q m) k (List.replicate 64 0)=(q.drop m).take k++List.replicate (64-k) 0
 | 0,_=>by rw [List.take_zero];rfl
 | k+1,hk=>by
  rw [cF,xk h k za]
  unfold DI
  have h0:((q.drop m).take k).length=k:=by rw [List.length_take,List.length_drop];omega
  rw [List.set_append_right _ _ za,h0,Nat.sub_self,show 64-k=(64-(k+1))+1 by omega,List.replicate_succ,List.set_cons_zero,bh (d:=(0:Int)) zO,List.append_assoc,show(q.drop m).getD k 0=q.getD (m+k) 0 from by rw [List.getD_eq_getElem?_getD,List.getD_eq_getElem?_getD,List.getElem?_drop]]
  rfl
theorem tp {q:List Int}{m:Nat}(h:m+64<=q.length):iter (DI q m) 64 (List.replicate 64 0)=(q.drop m).take 64:=by
 rw [xk h 64 (Nat.le_refl _)]
 exact List.append_nil _
def xm (s2:List Int) (k4:Nat) (x4:List Int):List Int:=x4.set k4 (IntKind.u8.wrap (aM .u32 (s2.getD (Int.toNat ((k4:Nat) / 4)) (0:Int)) (IntKind.u64.wrap (24-(8*((k4:Nat) % 4))))))
def AK (x:Int):List Int:=[IntKind.u8.wrap (aM .u32 x 24),IntKind.u8.wrap (aM .u32 x 16),IntKind.u8.wrap (aM .u32 x 8),IntKind.u8.wrap (aM .u32 x 0)]
theorem AL (x:Int):AK x=tb x:=by
 unfold AK tb
 rw [show aM .u32 x 0=x from by show x.fdiv (2 ^ 0)=x;exact Int.fdiv_one ..]
def Cw (s:List Int) (k:Nat):List Int:=iter (λi l=>bH l (4*i) (AK (s.getD i 0))) k (List.replicate 32 0)
theorem AM (s:List Int):iter (xm s) 32 (List.replicate 32 0)=Cw s 8:=zk
theorem BW (s:List Int):iter (xm s) 32 (List.replicate 32 0)=pw s 8:=by
 rw [AM]
 unfold Cw pw
 simp only [AL]
theorem zt {p:Prop}(h:p:=by first|omega|(simp only [List.length_append,List.length_cons,List.length_nil,cu];omega)):p:=h
theorem me {w0 w:World}{L:List aI}{ad:Option Addr}{c:Nat}(l:List Int) (hl:l.length<=100000) (hn:ad=none->c=0) (hb:∀ z∈l,0<=z/\z<256) (hr:∀ w,St w0 L w->ag w ad l.length 1 (λk=>af (l.getD k 0))) (hs:St w0 L w):Calls Tryz.prog 162 #[.slice ad l.length c] w (aZ λrv w'=>rv=.agg (ae af (dx l))/\St w0 L w'):=by
 refine bp Tryz.func162 Tryz.ntmps162 ?_
 refine En (Ls (Lg [0] (Dz ?_)))
 refine ar.alloc rfl rfl zk (z:=.agg gh) zk hs (cs:=gh) zk ?_
 intro b1 w2 hs3
 refine Lo (Ld (Lt (Ls (Lg [0,2,3,4] (Dz ?_)))))
 refine ar.eA rfl zk (t:=85) (e:=5) zk zk (ti:=Tryz.t5) zk hs3 ?_
 intro b4 w5 hs6 hz7
 have hs8:St w0 (Sl (some ⟨b4,0,none⟩) 0 5 1 af ([]:List Int)::ah b1 gh 34::L) w5:=St.ey (l:=([]:List Int)) (f:=af) hs6 hz7 aj.size zh zk
 refine Lo (Lu (Dz ?_))
 refine ar.append rfl zk aJ aj (ad:=some ⟨b4,0,none⟩) (c:=0) (xs:=([]:List Int)) (ys:=l) (adx:=ad) (cx:=c) (0:Int) zk hs8 (hr _ (hs8.drop 2)) hn zt zt ?_
 intro ad11 c12 w9 hs10
 refine Lo (Dz ?_)
 refine ar.aW rfl zk (t:=85) (e:=5) (n:=1) (ps:=[(0,.int .u8 128)]) zk zk (ti:=Tryz.t5) (z:=.int .u8 0) zk zk zf zf (cs:=#[.int .u8 128]) zk hs10 ?_
 intro b13 w14 hs15 hz16
 have hs17:St w0 (Sl (some ⟨b13,0,none⟩) 1 5 1 af ([(128:Int)])::Sl ad11 c12 5 1 af l::ah b1 gh 34::L) w14:=St.ey (l:=[(128:Int)]) (f:=af) hs15 hz16 aj.size zh zk
 refine Lo (Dz ?_)
 have hs20:=hs17.pl 1
 refine ar.append rfl zk aJ aj (ad:=ad11) (c:=c12) (xs:=l) (ys:=[(128:Int)]) (adx:=some ⟨b13,0,none⟩) (cx:=1) (0:Int) zk hs20 (hs20.rows 1 rfl aj.size (0:Int)) (λh=>nomatch h) zt zt ?_
 intro ad21 c22 w18 hs19
 refine Lo (aL (Lt (Ls (Lb (Dz ?_)))))
 have hs23:=((hs19.pl 2).pl 1).pl 2
 have hs24:=hs23.dr 1
 refine aE.loop (T:=(List Int)×(Option Addr)×Nat) (λgg=>[(0,.slice ad l.length c),(2,zP b1 0),(3,.slice gg.2.1 gg.1.length gg.2.2)]) (λgg w=>(gg.1.length+(120-gg.1.length % 64) % 64<=l.length+64/\rH gg.1=mc l)/\St w0 (Sl gg.2.1 gg.2.2 5 1 af gg.1::ah b1 gh 34::L) w) (λgg=>(120-gg.1.length % 64) % 64) ((l++([(128:Int)])),ad21,c22) [0,2,3] zk ⟨⟨zl,yu l⟩,hs24⟩ ?_
 rintro⟨q0,ad0,c0⟩ w25 ⟨hpa0,hs26⟩
 have hpa:q0.length+(120-q0.length % 64) % 64<=l.length+64/\rH q0=mc l:=hpa0
 have hs27:St w0 (Sl ad0 c0 5 1 af q0::ah b1 gh 34::L) w25:=hs26
 refine Zn [(0,.slice ad l.length c),(2,zP b1 0),(3,.slice ad0 q0.length c0)] ?_
 refine Zs (Zs (?_))
 refine bj (Hg 2 (.div ((q0.length:Nat) % 64)) [.prop (IntKind.i64=IntKind.i64/\(64:Int)≠0/\Int.tmod (q0.length:Nat) 64=(q0.length:Nat) % 64)] (aB ⟨rfl,zf,Int.tmod_eq_emod_of_nonneg (by first|omega|exact Int.natCast_nonneg _)⟩ av) Hz) ?_
 refine Zt (?_)
 refine cS (t:=(((q0.length:Nat) % 64):Int) != 56) (λh28=>?_) (λh28=>?_)
 ·have h28':¬ (((q0.length:Nat) % 64:Int)=56):=jb h28
  refine En (Lk (Lt (Lb (Lg [1,2] (Lu (Dz ?_))))))
  refine ar.aW rfl zk (t:=85) (e:=5) (n:=1) (ps:=[(0,.int .u8 0)]) zk zk (ti:=Tryz.t5) (z:=.int .u8 0) zk zk zf zf (cs:=#[.int .u8 0]) zk hs27 ?_
  intro b29 w30 hs31 hz32
  have hs33:St w0 (Sl (some ⟨b29,0,none⟩) 1 5 1 af ([(0:Int)])::Sl ad0 c0 5 1 af q0::ah b1 gh 34::L) w30:=St.ey (l:=[(0:Int)]) (f:=af) hs31 hz32 aj.size zh zk
  refine Lo (Dz ?_)
  have hs36:=hs33.pl 1
  refine ar.append rfl zk aJ aj (ad:=ad0) (c:=c0) (xs:=q0) (ys:=[(0:Int)]) (adx:=some ⟨b29,0,none⟩) (cx:=1) (0:Int) zk hs36 (hs36.rows 1 rfl aj.size (0:Int)) (λh=>nomatch h) zt zt ?_
  intro ad37 c38 w34 hs35
  refine Lo (aL (Lm (Dz ?_)))
  have hs39:=((hs35.pl 2).pl 1).pl 2
  have hs40:=hs39.dr 1
  exact aw.back (q0++([(0:Int)]),ad37,c38) [0,2,3] zk (by show(120-(q0++([(0:Int)])).length % 64) % 64<(120-q0.length % 64) % 64;simp only [List.length_append,List.length_cons,List.length_nil];omega) ⟨⟨zl,(yv za).trans hpa.2⟩,hs40⟩
 ·have h28':((q0.length:Nat) % 64:Int)=56:=iF h28
  refine En (Lx (gv (gw (Lh (Lt (Ls (La (Lt (Ls (Ls (La (Lt (Lb (Dz ?_))))))))))))))
  have hq0:q0=mc l:=(AH za).symm.trans hpa.2
  refine aE.loop (T:=Nat×Int×(List Int)×(Option Addr)×Nat) (λgg=>[(2,zP b1 0),(3,.slice gg.2.2.2.1 gg.2.2.1.length gg.2.2.2.2),(4,.int .u64 (IntKind.u64.wrap ((IntKind.u64.wrap (l.length:Nat))*8))),(5,.int .i64 gg.2.1)]) (λgg w=>(gg.1<=8/\gg.2.1=7-(gg.1:Nat)/\gg.2.2.1=mc l++iX (IntKind.u64.wrap ((l.length:Int)*8)) gg.1/\gg.2.2.1.length=q0.length+gg.1)/\St w0 (Sl gg.2.2.2.1 gg.2.2.2.2 5 1 af gg.2.2.1::ah b1 gh 34::L) w) (λgg=>8-gg.1) (0,7,q0,ad0,c0) [2,3,4,5] zk ⟨⟨by first|omega|(simp only;omega),by first|omega|(simp only;omega),by rw [hq0];exact(List.append_nil _).symm,rfl⟩,hs27⟩ ?_
  rintro⟨y1,z1,q1,ad1,c1⟩ w41 ⟨hpb0,hs42⟩
  have hpb:y1<=8/\z1=7-(y1:Nat)/\q1=mc l++iX (IntKind.u64.wrap ((l.length:Int)*8)) y1/\q1.length=q0.length+y1:=hpb0
  have hs43:St w0 (Sl ad1 c1 5 1 af q1::ah b1 gh 34::L) w41:=hs42
  refine Zn [(2,zP b1 0),(3,.slice ad1 q1.length c1),(4,.int .u64 (IntKind.u64.wrap ((IntKind.u64.wrap (l.length:Nat))*8))),(5,.int .i64 z1)] ?_
  refine En (Ls (Ls (La (Lt (Dz ?_)))))
  refine Zi ((z1:Int) >= 0) (λh44'=>?_) (λh44'=>?_)
  ·refine Zk (Zt (Zs (Zb (?_))))
   refine bL [7,8] (cH 3 (8*z1) (Hg 5 (.shift (aM .u64 (IntKind.u64.wrap ((IntKind.u64.wrap (l.length:Nat))*8)) (IntKind.u64.wrap (8*z1)))) [.prop ((0:Int)<=IntKind.u64.wrap (8*z1)/\Int.fdiv (IntKind.u64.wrap ((IntKind.u64.wrap (l.length:Nat))*8)) (2 ^ (min (Int.toNat (IntKind.u64.wrap (8*z1))) (IntKind.bits .u64)))=aM .u64 (IntKind.u64.wrap ((IntKind.u64.wrap (l.length:Nat))*8)) (IntKind.u64.wrap (8*z1)))] (aB ⟨(by first|omega|exact bf rfl _),rfl⟩ av) Hz)) ?_
   refine ar.aW rfl zk (t:=85) (e:=5) (n:=1) (ps:=[(0,.int .u8 (IntKind.u8.wrap (aM .u64 (IntKind.u64.wrap ((IntKind.u64.wrap (l.length:Nat))*8)) (IntKind.u64.wrap (8*z1)))))]) zk zk (ti:=Tryz.t5) (z:=.int .u8 0) zk zk zf zf (cs:=#[.int .u8 (IntKind.u8.wrap (aM .u64 (IntKind.u64.wrap ((IntKind.u64.wrap (l.length:Nat))*8)) (IntKind.u64.wrap (8*z1))))]) zk hs43 ?_
   intro b45 w46 hs47 hz48
   have hs49:St w0 (Sl (some ⟨b45,0,none⟩) 1 5 1 af ([(IntKind.u8.wrap (aM .u64 (IntKind.u64.wrap ((IntKind.u64.wrap (l.length:Nat))*8)) (IntKind.u64.wrap (8*z1))):Int)])::Sl ad1 c1 5 1 af q1::ah b1 gh 34::L) w46:=St.ey (l:=[(IntKind.u8.wrap (aM .u64 (IntKind.u64.wrap ((IntKind.u64.wrap (l.length:Nat))*8)) (IntKind.u64.wrap (8*z1))):Int)]) (f:=af) hs47 hz48 aj.size zh zk
   refine Lo (Dz ?_)
   have hs52:=hs49.pl 1
   refine ar.append rfl zk aJ aj (ad:=ad1) (c:=c1) (xs:=q1) (ys:=[(IntKind.u8.wrap (aM .u64 (IntKind.u64.wrap ((IntKind.u64.wrap (l.length:Nat))*8)) (IntKind.u64.wrap (8*z1))):Int)]) (adx:=some ⟨b45,0,none⟩) (cx:=1) (0:Int) zk hs52 (hs52.rows 1 rfl aj.size (0:Int)) (λh=>nomatch h) zt zt ?_
   intro ad53 c54 w50 hs51
   refine Lo (aL (Lm (Lt (Dz ?_))))
   refine bj (cH 1 (z1-1) Hz) ?_
   have hs55:=((hs51.pl 2).pl 1).pl 2
   have hs56:=hs55.dr 1
   exact aw.back (y1+1,z1-1,q1++([(IntKind.u8.wrap (aM .u64 (IntKind.u64.wrap ((IntKind.u64.wrap (l.length:Nat))*8)) (IntKind.u64.wrap (8*z1))):Int)]),ad53,c54) [2,3,4,5] zk (by show 8-(y1+1)<8-y1;omega) ⟨(by refine⟨by first|omega|(simp only;omega),by first|omega|(simp only;omega),?_⟩;refine⟨?_,by simp only [List.length_append,List.length_cons,List.length_nil];omega⟩;show q1++_=_;rw [hpb.2.2.1,List.append_assoc];exact congrArg (mc l++·) (vG hl za hpb.2.1)),hs56⟩
  ·refine En (Lx (gv (gw (Lh (Lt (Ls (Lg [0,1,2] (Dz ?_))))))))
   refine aF Tryz.call186 (te hs43) ?_
   rintro v58 w59 ⟨rfl,hs57⟩
   refine Lo (Dz ?_)
   refine ar.alloc rfl rfl zk (z:=.agg wI) zk hs57 (cs:=wI) zk ?_
   intro b60 w61 hs62
   refine Lo (Dz ?_)
   refine Zv (b:=b60) (off:=0) (v:=.agg y4) (ti:=Tryz.t297) zk hs62 0 (cs':=y4) ?_
   intro w63 hs64
   refine Lo (Ld (Lt (Ls (Ls (La (Lt (Lb (Dz ?_))))))))
   have hq2:q1=allM l:=by rw [hpb.2.2.1,show y1=8 by omega];rfl
   have hqb:∀ z∈q1,0<=z/\z<256:=by rw [hq2];exact AJ hb
   have hq3:=mG l
   rw [<- hq2] at hq3
   have hq1:q1.length % 64=0/\0<q1.length/\q1.length<=1000000000:=za
   obtain⟨ab65,rfl⟩:=Sl.isSome (hs64.at_ 1 rfl) za
   have hs67:St w0 (ah b60 (ae aN gl) 297::Sl (some ⟨ab65,0,none⟩) c1 5 1 af q1::ah b1 gh 34::L) w63:=Eq.mp zk hs64
   refine aE.loop (T:=Nat×(List Int)) (λgg=>[(2,zP b1 0),(3,zL ab65 0 q1.length c1),(6,zP b60 0),(7,.int .i64 (gg.1:Nat))]) (λgg w=>(gg.1 % 64=0/\gg.1<=q1.length/\gg.2=tj q1 (gg.1 / 64) gl/\gg.2.length=8)/\St w0 (ah b60 (ae aN gg.2) 297::Sl (some ⟨ab65,0,none⟩) c1 5 1 af q1::ah b1 gh 34::L) w) (λgg=>q1.length-gg.1) (0,gl) [2,3,6,7] zk ⟨⟨rfl,Nat.zero_le _,rfl,rfl⟩,hs67⟩ ?_
   rintro⟨m2,s2⟩ w68 ⟨hpc0,hs69⟩
   have hpc:m2 % 64=0/\m2<=q1.length/\s2=tj q1 (m2 / 64) gl/\s2.length=8:=hpc0
   have hs70:St w0 (ah b60 (ae aN s2) 297::Sl (some ⟨ab65,0,none⟩) c1 5 1 af q1::ah b1 gh 34::L) w68:=hs69
   refine Zn [(2,zP b1 0),(3,zL ab65 0 q1.length c1),(6,zP b60 0),(7,.int .i64 (m2:Nat))] ?_
   refine En (Ls (Ls (La (Lt (Dz ?_)))))
   refine Zi (((m2:Nat):Int)<(q1.length:Nat)) (λh71'=>?_) (λh71'=>?_)
   ·refine En (Lk (Lt (Ls (Lb (Ls (Lg [0] (Dz ?_)))))))
    refine ar.alloc rfl rfl zk (z:=.agg EN) zk hs70 (cs:=EN) zk ?_
    intro b72 w73 hs74
    refine Lo (Ld (Lt (Ls (Ls (La (Lt (Lb (Dz ?_))))))))
    have hs75:St w0 (ah b72 (ae af (List.replicate 64 0)) 299::ah b60 (ae aN s2) 297::Sl (some ⟨ab65,0,none⟩) c1 5 1 af q1::ah b1 gh 34::L) w73:=Eq.mp zk hs74
    refine aE.loop (T:=Nat×(List Int)) (λgg=>[(2,zP b1 0),(3,zL ab65 0 q1.length c1),(6,zP b60 0),(7,.int .i64 (m2:Nat)),(8,zP b72 0),(9,.int .i64 (gg.1:Nat))]) (λgg w=>(gg.1<=64/\gg.2=iter (DI q1 m2) gg.1 (List.replicate 64 0)/\gg.2.length=64)/\St w0 (ah b72 (ae af gg.2) 299::ah b60 (ae aN s2) 297::Sl (some ⟨ab65,0,none⟩) c1 5 1 af q1::ah b1 gh 34::L) w) (λgg=>64-gg.1) (0,(List.replicate 64 0)) [2,3,6,7,8,9] zk ⟨⟨Nat.le_of_ble_eq_true rfl,rfl,rfl⟩,hs75⟩ ?_
    rintro⟨k3,x3s⟩ w76 ⟨hpd0,hs77⟩
    have hpd:k3<=64/\x3s=iter (DI q1 m2) k3 (List.replicate 64 0)/\x3s.length=64:=hpd0
    have hs78:St w0 (ah b72 (ae af x3s) 299::ah b60 (ae aN s2) 297::Sl (some ⟨ab65,0,none⟩) c1 5 1 af q1::ah b1 gh 34::L) w76:=hs77
    refine Zn [(2,zP b1 0),(3,zL ab65 0 q1.length c1),(6,zP b60 0),(7,.int .i64 (m2:Nat)),(8,zP b72 0),(9,.int .i64 (k3:Nat))] ?_
    refine En (Ls (Ls (La (Lt (Dz ?_)))))
    refine Zi (((k3:Nat):Int)<64) (λh79'=>?_) (λh79'=>?_)
    ·refine Zk (Zt (Zs (Zb (?_))))
     refine bL [8] (cH 4 ((m2:Nat)+(k3:Nat)) (Hx 5 (((m2:Nat)+(k3:Nat)):Int) ((q1.length:Nat):Int) ab65 0 1 (Hg 6 (.gen [.int .u8 (q1.getD (m2+k3) 0)]) [.cell ⟨ab65,0+((m2+k3)*1),none⟩ (.int .u8 (q1.getD (m2+k3) 0))] (aG (ag.cC (hs78.rows 2 rfl aj.size (0:Int)) (k:=(m2+k3)) zd (j:=0) zf zk) av) (Hx 7 ((k3:Nat):Int) (64:Int) b72 0 1 Hz)))) ?_
     refine ar.store rfl rfl zk (b:=b72) (off:=0+(k3*1)) (v:=.int .u8 (q1.getD (m2+k3) 0)) zk zk (ti:=Tryz.t5) zk hs78 0 rfl zk zk (by rw [Nat.zero_add];exact fH (f:=af) (size:=1) (l:=x3s) (k:=k3) aj.size zd) (cs':=ae af (x3s.set k3 (q1.getD (m2+k3) 0))) (L':=(ah b72 (ae af (x3s.set k3 (q1.getD (m2+k3) 0))) 299)::ah b60 (ae aN s2) 297::Sl (some ⟨ab65,0,none⟩) c1 5 1 af q1::ah b1 gh 34::L) (by rw [Nat.zero_add];exact eh (f:=af) (size:=1) (l:=x3s) (k:=k3) aj.size zd (q1.getD (m2+k3) 0)) rfl ?_
     intro w80 hs81
     refine Lo (Ld (Lm (Lt (Dz ?_))))
     refine bj (cH 1 ((k3:Nat)+1) Hz) ?_
     exact aw.back (k3+1,x3s.set k3 (q1.getD (m2+k3) 0)) [2,3,6,7,8,9] zk (by show 64-(k3+1)<64-k3;omega) ⟨⟨za,by rw [cF,<- hpd.2.1];rfl,by first|rfl|(simp only [List.length_set];omega)⟩,hs81⟩
    ·refine Zx (aw.da (aw.dc (aw.jR (Zt (?_)))))
     refine bL [2,3] (Hg 0 (.agg (ae aN s2)) [.prop (Array.size (ae aN s2)=8),.cells ⟨b60,0,none⟩ (ae aN s2)] (aB (bt aQ (show(s2).length=8 from zq) rfl) (dq (hs78.cells 1 0 rfl zG) av)) (Hg 1 (.agg (ae af x3s)) [.prop (Array.size (ae af x3s)=64),.cells ⟨b72,0,none⟩ (ae af x3s)] (aB (bt aj (show(x3s).length=64 from zq) rfl) (dq (hs78.cells 0 0 rfl zG) av)) Hz)) ?_
     refine aF (f:=187) (args:=#[.agg (ae aN s2),.agg (ae af x3s)]) Tryz.call187 (rG s2 x3s (by first|assumption|omega|(simp only [List.length_set];omega)|rfl) (by first|assumption|omega|(simp only [List.length_set];omega)|rfl) (by rw [hpd.2.1,show k3=64 by omega,tp za];exact λz hz=>hqb z (List.mem_of_mem_drop (List.mem_of_mem_take hz))) hs78) ?_
     rintro v83 w84 ⟨rfl,hs82⟩
     refine Lo (Dz ?_)
     refine ar.store rfl rfl zk (b:=b60) (off:=0) (v:=.agg (ae aN (bZ s2 x3s))) zk zk (ti:=Tryz.t297) zk hs82 1 rfl (bQ aQ (show(bZ s2 x3s).length=8 from cD hpc.2.2.2 _) zk) (cX aQ) (cJ aQ (show(bZ s2 x3s).length=8 from cD hpc.2.2.2 _) (by rw [bt aQ (show(s2).length=8 from zq) (m:=8) rfl];rfl)) (cs':=ae aN (bZ s2 x3s)) (L':=(ah b72 (ae af x3s) 299)::ah b60 (ae aN (bZ s2 x3s)) 297::Sl (some ⟨ab65,0,none⟩) c1 5 1 af q1::ah b1 gh 34::L) (dz aQ (show(bZ s2 x3s).length=8 from cD hpc.2.2.2 _) (by rw [bt aQ (show(s2).length=8 from zq) (m:=8) rfl];rfl)) rfl ?_
     intro w85 hs86
     refine Lo (Ld (Lm (Lt (Dz ?_))))
     refine bj (cH 1 ((m2:Nat)+64) Hz) ?_
     have hs87:=hs86.dr 1
     exact aw.back (m2+64,bZ s2 x3s) [2,3,6,7] zk (by show q1.length-(m2+64)<q1.length-m2;omega) ⟨⟨za,za,by show bZ s2 x3s=_;rw [hpd.2.1,show k3=64 by omega,tp za,hpc.2.2.1,show(m2+64) / 64=m2 / 64+1 by omega];show bZ _ ((q1.drop m2).take 64)=bZ _ ((q1.drop (64*(m2 / 64))).take 64);rw [show 64*(m2 / 64)=m2 by omega];rfl,by first|omega|exact cD hpc.2.2.2 _⟩,hs87⟩
   ·refine En (Lx (gv (gw (Lh (Lt (Ls (Lg [0] (Dz ?_))))))))
    refine ar.alloc rfl rfl zk (z:=.agg gh) zk hs70 (cs:=gh) zk ?_
    intro b88 w89 hs90
    refine Lo (Ld (Lt (Ls (Ls (La (Lt (Lb (Dz ?_))))))))
    have hs91:St w0 (ah b88 (ae af (List.replicate 32 0)) 34::ah b60 (ae aN s2) 297::Sl (some ⟨ab65,0,none⟩) c1 5 1 af q1::ah b1 gh 34::L) w89:=Eq.mp zk hs90
    refine aE.loop (T:=Nat×(List Int)) (λgg=>[(2,zP b1 0),(6,zP b60 0),(10,zP b88 0),(11,.int .i64 (gg.1:Nat))]) (λgg w=>(gg.1<=32/\gg.2=iter (xm s2) gg.1 (List.replicate 32 0)/\gg.2.length=32)/\St w0 (ah b88 (ae af gg.2) 34::ah b60 (ae aN s2) 297::Sl (some ⟨ab65,0,none⟩) c1 5 1 af q1::ah b1 gh 34::L) w) (λgg=>32-gg.1) (0,(List.replicate 32 0)) [2,6,10,11] zk ⟨⟨Nat.le_of_ble_eq_true rfl,rfl,rfl⟩,hs91⟩ ?_
    rintro⟨k4,x4⟩ w92 ⟨hpe0,hs93⟩
    have hpe:k4<=32/\x4=iter (xm s2) k4 (List.replicate 32 0)/\x4.length=32:=hpe0
    have hs94:St w0 (ah b88 (ae af x4) 34::ah b60 (ae aN s2) 297::Sl (some ⟨ab65,0,none⟩) c1 5 1 af q1::ah b1 gh 34::L) w92:=hs93
    refine Zn [(2,zP b1 0),(6,zP b60 0),(10,zP b88 0),(11,.int .i64 (k4:Nat))] ?_
    refine En (Ls (Ls (La (Lt (Dz ?_)))))
    refine Zi (((k4:Nat):Int)<32) (λh95'=>?_) (λh95'=>?_)
    ·refine Zk (Zt (Zs (Zb (?_))))
     refine bL [13] (Hg 2 (.div ((k4:Nat) / 4)) [.prop (IntKind.i64=IntKind.i64/\(4:Int)≠0/\IntKind.i64.wrap (Int.tdiv (k4:Nat) 4)=(k4:Nat) / 4)] (aB ⟨rfl,zf,by rw [Int.tdiv_eq_ediv_of_nonneg za];exact uy za za⟩ av) (Hx 3 (((k4:Nat) / 4):Int) (8:Int) b60 0 1 (Hg 4 (.gen [.int .u32 (s2.getD (Int.toNat ((k4:Nat) / 4)) (0:Int))]) [.cell ⟨b60,0+((Int.toNat ((k4:Nat) / 4))*1),none⟩ (.int .u32 (s2.getD (Int.toNat ((k4:Nat) / 4)) (0:Int)))] (aG (ag.cC (au hs94 1 rfl aQ.size (0:Int)) (k:=Int.toNat ((k4:Nat) / 4)) zd (j:=0) zf zk) av) (Hg 6 (.div ((k4:Nat) % 4)) [.prop (IntKind.i64=IntKind.i64/\(4:Int)≠0/\Int.tmod (k4:Nat) 4=(k4:Nat) % 4)] (aB ⟨rfl,zf,Int.tmod_eq_emod_of_nonneg (by first|omega|exact Int.natCast_nonneg _)⟩ av) (cH 7 (8*((k4:Nat) % 4)) (cH 8 (24-(8*((k4:Nat) % 4))) (Hg 10 (.shift (aM .u32 (s2.getD (Int.toNat ((k4:Nat) / 4)) (0:Int)) (IntKind.u64.wrap (24-(8*((k4:Nat) % 4)))))) [.prop ((0:Int)<=IntKind.u64.wrap (24-(8*((k4:Nat) % 4)))/\Int.fdiv (s2.getD (Int.toNat ((k4:Nat) / 4)) (0:Int)) (2 ^ (min (Int.toNat (IntKind.u64.wrap (24-(8*((k4:Nat) % 4))))) (IntKind.bits .u32)))=aM .u32 (s2.getD (Int.toNat ((k4:Nat) / 4)) (0:Int)) (IntKind.u64.wrap (24-(8*((k4:Nat) % 4)))))] (aB ⟨(by first|omega|exact bf rfl _),rfl⟩ av) (Hx 12 ((k4:Nat):Int) (32:Int) b88 0 1 Hz)))))))) ?_
     refine ar.store rfl rfl zk (b:=b88) (off:=0+(k4*1)) (v:=.int .u8 (IntKind.u8.wrap (aM .u32 (s2.getD (Int.toNat ((k4:Nat) / 4)) (0:Int)) (IntKind.u64.wrap (24-(8*((k4:Nat) % 4))))))) zk zk (ti:=Tryz.t5) zk hs94 0 rfl zk zk (by rw [Nat.zero_add];exact fH (f:=af) (size:=1) (l:=x4) (k:=k4) aj.size zd) (cs':=ae af (x4.set k4 (IntKind.u8.wrap (aM .u32 (s2.getD (Int.toNat ((k4:Nat) / 4)) (0:Int)) (IntKind.u64.wrap (24-(8*((k4:Nat) % 4)))))))) (L':=(ah b88 (ae af (x4.set k4 (IntKind.u8.wrap (aM .u32 (s2.getD (Int.toNat ((k4:Nat) / 4)) (0:Int)) (IntKind.u64.wrap (24-(8*((k4:Nat) % 4)))))))) 34)::ah b60 (ae aN s2) 297::Sl (some ⟨ab65,0,none⟩) c1 5 1 af q1::ah b1 gh 34::L) (by rw [Nat.zero_add];exact eh (f:=af) (size:=1) (l:=x4) (k:=k4) aj.size zd (IntKind.u8.wrap (aM .u32 (s2.getD (Int.toNat ((k4:Nat) / 4)) (0:Int)) (IntKind.u64.wrap (24-(8*((k4:Nat) % 4))))))) rfl ?_
     intro w96 hs97
     refine Lo (Ld (Lm (Lt (Dz ?_))))
     refine bj (cH 1 ((k4:Nat)+1) Hz) ?_
     exact aw.back (k4+1,x4.set k4 (IntKind.u8.wrap (aM .u32 (s2.getD (Int.toNat ((k4:Nat) / 4)) (0:Int)) (IntKind.u64.wrap (24-(8*((k4:Nat) % 4))))))) [2,6,10,11] zk (by show 32-(k4+1)<32-k4;omega) ⟨⟨za,by rw [cF,<- hpe.2.1];rfl,by first|rfl|(simp only [List.length_set];omega)⟩,hs97⟩
    ·refine Zx (aw.da (aw.dc (aw.jR (Zt (Zs (?_))))))
     refine bL [1] (Hg 0 (.agg (ae af x4)) [.prop (Array.size (ae af x4)=32),.cells ⟨b88,0,none⟩ (ae af x4)] (aB (bt aj (show(x4).length=32 from zq) rfl) (dq (hs94.cells 0 0 rfl zG) av)) Hz) ?_
     refine ar.store rfl rfl zk (b:=b1) (off:=0) (v:=.agg (ae af x4)) zk zk (ti:=Tryz.t34) zk hs94 3 rfl (bQ aj (show(x4).length=32 from zq) zk) (cX aj) (cJ aj (show(x4).length=32 from zq) zk) (cs':=ae af x4) (L':=(ah b88 (ae af x4) 34)::ah b60 (ae aN s2) 297::Sl (some ⟨ab65,0,none⟩) c1 5 1 af q1::ah b1 (ae af x4) 34::L) (dz aj (show(x4).length=32 from zq) zk) rfl ?_
     intro w98 hs99
     refine Lo (Ld (Lt (Le (Dz ?_))))
     refine aw.done (.inl rfl) (v:=.agg (ae af x4)) (λa hf=>ct rfl zk (ti:=Tryz.t34) zk zk (vs:=ae af x4) (bt aj (show(x4).length=32 from zq) zk) (hs99.cells 3 0 rfl zG) a hf) ?_
     have hs100:=hs99.dr 4
     exact⟨(by rw [hpe.2.1,show k4=32 by omega,BW,hpc.2.2.1,show m2=q1.length by omega,hq2,<- BT za]),hs100⟩
theorem ju (s:List Int):∀ k,∀ z∈pw s k,0<=z/\z<256
 | 0,z,h=>by
  have:=List.eq_of_mem_replicate (show z∈List.replicate 32 (0:Int) from h)
  omega
 | k+1,z,h=>by
  rw [lZ] at h
  unfold bH at h
  have w:∀ x:Int,0<=IntKind.u8.wrap x/\IntKind.u8.wrap x<256:=λx=>by
   show 0<=x % 256/\x % 256<256
   omega
  rcases List.mem_append.1 h with h|h
  ·rcases List.mem_append.1 h with h|h
   ·exact ju s k z (List.mem_of_mem_take h)
   ·simp only [tb,List.mem_cons,List.not_mem_nil,or_false] at h
    rcases h with rfl|rfl|rfl|rfl<;>exact w _
  ·exact ju s k z (List.mem_of_mem_drop h)
theorem AN (l:List Int):∀ z∈dx l,0<=z/\z<256:=ju _ 8
theorem rI {a b:List Int}(ha:a.length<=1000000000) (hb:b.length<=1000000000):dP a b=dx (a++b):=by
 unfold dP dx
 show lj (ic (ic ta a) b) (IntKind.u64.wrap ((IntKind.u64.wrap (0+(IntKind.u64.wrap (a.length:Nat))))+(IntKind.u64.wrap (b.length:Nat))))=_
 rw [BU dA,List.length_append,vA za,show IntKind.u64.wrap (b.length:Nat)=(b.length:Nat) from gK za za,gK za za,vA za]
 rfl
theorem xo {l:List Int}(h:l.length<=64):vo l=l++List.replicate (64-l.length) 0:=by
 unfold vo gi
 rw [Nat.min_eq_left h,List.take_length,List.take_zero,List.nil_append,Nat.zero_add,List.drop_replicate]
theorem oD {l:List Int}{bv:Int}(h:l.length<=64) (hb:∀ z∈l,0<=z/\z<256):∀ k,∀ z∈ig l bv k,0<=z/\z<256
 | 0,z,hz=>by
  have hz':z∈vo l:=hz
  rw [xo h] at hz'
  rcases List.mem_append.1 hz' with h1|h1
  ·exact hb z h1
  ·have:=List.eq_of_mem_replicate h1
   omega
 | k+1,z,hz=>by
  have hz':z∈(ig l bv k).set k (bN .u8 ((ig l bv k).getD k 0) bv):=hz
  rcases List.mem_or_eq_of_mem_set hz' with h1|rfl
  ·exact oD h hb k z h1
  ·show 0<=(_:Int) % 256/\(_:Int) % 256<256
   omega
theorem oE {w0 w:World}{L:List aI}{ad:Option Addr}{c:Nat}(l:List Int) (bv:Int) (hl:l.length<=64) (hn:ad=none->c=0) (hr:∀ w,St w0 L w->ag w ad l.length 1 (λk=>af (l.getD k 0))) (hs:St w0 L w):Calls Tryz.prog 163 #[.slice ad l.length c,.int .u8 bv] w (aZ λrv w'=>∃ (ao:Option Addr) (co:Nat),rv=.slice ao ((bS l bv).length) co/\St w0 (Sl ao co 5 1 af (bS l bv)::L) w'):=by
 refine bp Tryz.func163 Tryz.ntmps163 ?_
 refine En (Ls (La (Lt (Ls (Lg [0,2] (Dz ?_))))))
 refine ar.eA rfl zk (t:=85) (e:=5) zk zk (ti:=Tryz.t5) zk hs ?_
 intro b1 w2 hs3 hz4
 have hs5:St w0 (Sl (some ⟨b1,0,none⟩) 0 5 1 af ([]:List Int)::L) w2:=St.ey (l:=([]:List Int)) (f:=af) hs3 hz4 aj.size zh zk
 refine Lo (Lu (Dz ?_))
 refine ar.append rfl zk aJ aj (ad:=some ⟨b1,0,none⟩) (c:=0) (xs:=([]:List Int)) (ys:=l) (adx:=ad) (cx:=c) (0:Int) zk hs5 (hr _ (hs5.drop 1)) hn zl zl ?_
 intro ad8 c9 w6 hs7
 refine Lo (aL (Lt (Ls (Ls (La (Lt (Dz ?_)))))))
 refine Zi (((l.length:Nat):Int)>64) (λh10'=>?_) (λh10'=>?_)
 ·exfalso;omega
 ·refine Zk (Zt (Zs (Zb (?_))))
  refine aE.loop (T:=(List Int)×(Option Addr)×Nat) (λgg=>[(1,.int .u8 bv),(4,.slice none 0 0),(5,.slice gg.2.1 gg.1.length gg.2.2)]) (λgg w=>(l.length<=gg.1.length/\gg.1.length<=64/\gg.1=l++List.replicate (gg.1.length-l.length) 0)/\St w0 (Sl gg.2.1 gg.2.2 5 1 af gg.1::L) w) (λgg=>64-gg.1.length) (l,ad8,c9) [1,4,5] zk ⟨⟨zl,zl,by simp only [List.nil_append,Nat.sub_self,List.replicate_zero,List.append_nil]⟩,hs7⟩ ?_
  rintro⟨q0,ad0,c0⟩ w11 ⟨hpa0,hs12⟩
  have hpa:l.length<=q0.length/\q0.length<=64/\q0=l++List.replicate (q0.length-l.length) 0:=hpa0
  have hs13:St w0 (Sl ad0 c0 5 1 af q0::L) w11:=hs12
  refine Zn [(1,.int .u8 bv),(4,.slice none 0 0),(5,.slice ad0 q0.length c0)] ?_
  refine En (Ls (Ls (La (Lt (Dz ?_)))))
  refine Zi (((q0.length:Nat):Int)<64) (λh14'=>?_) (λh14'=>?_)
  ·refine En (Lk (Lt (Lb (Lg [1,2] (Lu (Dz ?_))))))
   refine ar.aW rfl zk (t:=85) (e:=5) (n:=1) (ps:=[(0,.int .u8 0)]) zk zk (ti:=Tryz.t5) (z:=.int .u8 0) zk zk zf zf (cs:=#[.int .u8 0]) zk hs13 ?_
   intro b15 w16 hs17 hz18
   have hs19:St w0 (Sl (some ⟨b15,0,none⟩) 1 5 1 af ([(0:Int)])::Sl ad0 c0 5 1 af q0::L) w16:=St.ey (l:=[(0:Int)]) (f:=af) hs17 hz18 aj.size zh zk
   refine Lo (Dz ?_)
   have hs22:=hs19.pl 1
   refine ar.append rfl zk aJ aj (ad:=ad0) (c:=c0) (xs:=q0) (ys:=[(0:Int)]) (adx:=some ⟨b15,0,none⟩) (cx:=1) (0:Int) zk hs22 (hs22.rows 1 rfl aj.size (0:Int)) (λh=>nomatch h) zl zl ?_
   intro ad23 c24 w20 hs21
   refine Lo (aL (Lm (Dz ?_)))
   have hs25:=(hs21.pl 0).pl 1
   have hs26:=hs25.dr 1
   exact aw.back (q0++([(0:Int)]),ad23,c24) [1,4,5] zk (by show 64-(q0++([(0:Int)])).length<64-q0.length;simp only [List.length_append,List.length_cons,List.length_nil];omega) ⟨⟨zl,zl,by rw [show(q0++[(0:Int)]).length-l.length=(q0.length-l.length)+1 by(simp only [List.length_append,List.length_cons,List.length_nil];omega),List.replicate_succ',<- List.append_assoc,<- hpa.2.2]⟩,hs26⟩
  ·refine En (Lx (gv (gw (Lh (Lt (Ls (Ls (La (Lt (Lb (Dz ?_)))))))))))
   have hq0:q0.length=64:=za
   have hqk:q0=vo l:=by rw [xo hl,hpa.2.2,hq0]
   obtain⟨ab27,rfl⟩:=Sl.isSome (hs13.at_ 0 rfl) za
   refine aE.loop (T:=Nat×(List Int)) (λgg=>[(1,.int .u8 bv),(4,.slice none 0 0),(5,zL ab27 0 q0.length c0),(7,.int .i64 (gg.1:Nat))]) (λgg w=>(gg.1<=64/\gg.2=ig l bv gg.1/\gg.2.length=64)/\St w0 (Sl (some ⟨ab27,0,none⟩) c0 5 1 af gg.2::L) w) (λgg=>64-gg.1) (0,q0) [1,4,5,7] zk ⟨⟨Nat.zero_le _,hqk,hq0⟩,hs13⟩ ?_
   rintro⟨k1,x1⟩ w29 ⟨hpb0,hs30⟩
   have hpb:k1<=64/\x1=ig l bv k1/\x1.length=64:=hpb0
   have hs31:St w0 (Sl (some ⟨ab27,0,none⟩) c0 5 1 af x1::L) w29:=hs30
   refine Zn [(1,.int .u8 bv),(4,.slice none 0 0),(5,zL ab27 0 q0.length c0),(7,.int .i64 (k1:Nat))] ?_
   refine En (Ls (Ls (La (Lt (Dz ?_)))))
   refine Zi (((k1:Nat):Int)<64) (λh32'=>?_) (λh32'=>?_)
   ·refine Zk (Zt (Zs (Zb (?_))))
    refine bL [9] (Hx 4 ((k1:Nat):Int) ((q0.length:Nat):Int) ab27 0 1 (Hg 5 (.gen [.int .u8 (x1.getD k1 0)]) [.cell ⟨ab27,0+(k1*1),none⟩ (.int .u8 (x1.getD k1 0))] (aG (ag.cC (hs31.rows 0 rfl aj.size (0:Int)) (k:=k1) zd (j:=0) zf zk) av) (Hx 8 ((k1:Nat):Int) ((q0.length:Nat):Int) ab27 0 1 Hz))) ?_
    refine ar.wN rfl rfl zk (b:=ab27) (off:=0+(k1*1)) (v:=.int .u8 (bN .u8 (x1.getD k1 0) bv)) zk zk (ti:=Tryz.t5) zk hs31 0 aj.size rfl zk zk (by rw [Nat.zero_add];exact nO (f:=af) (size:=1) (l:=x1) (k:=k1) (o:=0) (n:=1) aj.size zd zf) (List.length_set ..) (xs':=x1.set k1 (bN .u8 (x1.getD k1 0) bv)) (by rw [Nat.zero_add];exact kT (f:=af) (size:=1) (l:=x1) (k:=k1) (o:=0) aj.size zd (0:Int) (bN .u8 (x1.getD k1 0) bv) (Nat.le_of_ble_eq_true rfl) zk) (L':=(Sl (some ⟨ab27,0,none⟩) c0 5 1 af (x1.set k1 (bN .u8 (x1.getD k1 0) bv)))::L) rfl ?_
    intro w33 hs34
    refine Lo (Ld (Lm (Lt (Dz ?_))))
    refine bj (cH 1 ((k1:Nat)+1) Hz) ?_
    exact aw.back (k1+1,x1.set k1 (bN .u8 (x1.getD k1 0) bv)) [1,4,5,7] zk (by show 64-(k1+1)<64-k1;omega) ⟨⟨za,by rw [hpb.2.1];rfl,by simp only [List.length_set];omega⟩,hs34⟩
   ·refine En (Lx (gv (gw (Lh (Lt (Ls (La (Lt (Le (Dz ?_))))))))))
    refine bg (v:=zL ab27 0 q0.length c0) ?_
    have hx1:x1=bS l bv:=by rw [hpb.2.1,show k1=64 by omega];rfl
    exact⟨some ⟨ab27,0,none⟩,c0,by rw [<- hx1,hpb.2.2,hq0],by rw [<- hx1];exact hs31⟩
theorem BX {key bl:List Int}(hb:bl.length<=100000):dx (bS key 92++dx (bS key 54++bl))=gz key bl:=by
 unfold gz
 rw [rI zQ zU,rI zQ za]
theorem lz {a b:List Int}(ha:∀ z∈a,0<=z/\z<256) (hb:∀ z∈b,0<=z/\z<256):∀ z∈a++b,0<=z/\z<256:=λz hz=>(List.mem_append.1 hz).elim (ha z) (hb z)
theorem AO (s:ByteArray):∀ z∈bF s,0<=z/\z<256:=by
 intro z hz
 unfold bF at hz
 obtain⟨x,-,rfl⟩:=List.mem_map.1 hz
 have:=x.toNat_lt
 omega
theorem xp (n:Int):∀ z∈wd n,0<=z/\z<256:=by
 have w:∀ x:Int,0<=IntKind.u8.wrap x/\IntKind.u8.wrap x<256:=λx=>by
  show 0<=x % 256/\x % 256<256
  omega
 intro z hz
 have h:wd n=[xL n 0,xL n 1,xL n 2,xL n 3,xL n 4,xL n 5,xL n 6,xL n 7]:=rfl
 rw [h] at hz
 simp only [List.mem_cons,List.not_mem_nil,or_false] at hz
 rcases hz with rfl|rfl|rfl|rfl|rfl|rfl|rfl|rfl<;>exact w _
theorem zi {p:Prop}(h:p:=by first|omega|(simp only [List.length_append,List.length_cons,List.length_nil,fZ,cv,aP,js,hH,cu];omega)|assumption|decide):p:=h
theorem zm {p:Prop}(h:p:=by first|omega|(simp only [List.length_append,List.length_cons,List.length_nil,fZ,cv,aP,js,hH,cu];omega)):p:=h
theorem AP {w0 w:World}{L:List aI}{adk:Option Addr}{ck:Nat}{adb:Option Addr}{cb:Nat}(key:List Int) (bl:List Int) (hkl:key.length<=64) (hnk:adk=none->ck=0) (hbl:bl.length<=50000) (hnb:adb=none->cb=0) (hb1:∀ z∈key,0<=z/\z<256) (hb2:∀ z∈bl,0<=z/\z<256) (hr1:∀ w,St w0 L w->ag w adk key.length 1 (λk=>af (key.getD k 0))) (hr2:∀ w,St w0 L w->ag w adb bl.length 1 (λk=>af (bl.getD k 0))) (hs:St w0 L w):Calls Tryz.prog 119 #[.slice adk key.length ck,.slice adb bl.length cb] w (aZ λrv w'=>rv=.agg (ae af (gz key bl))/\St w0 L w'):=by
 refine bp Tryz.func119 Tryz.ntmps119 ?_
 refine En (Ls (Lg [0] (Dz ?_)))
 refine ar.alloc rfl rfl zk (z:=.agg (aO.cells aH)) zk hs (cs:=aO.cells aH) zk ?_
 intro b1 w2 hs3
 refine Lo (Ld (Lt (Ls (Lg [1,3,4,5,6] (Lu (Dz ?_))))))
 refine aF Tryz.call163 (oE key 54 zi hnk (λw h=>hr1 _ (h.drop 1)) hs3) ?_
 rintro v7 w8 ⟨ao4,co5,rfl,hs6⟩
 refine Lo (Lu (Dz ?_))
 refine ar.append rfl zk aJ aj (ad:=ao4) (c:=co5) (xs:=bS key 54) (ys:=bl) (adx:=adb) (cx:=cb) (0:Int) zk hs6 (hr2 _ (hs6.drop 2)) hnb zm zm ?_
 intro ad11 c12 w9 hs10
 refine Lo (Dz ?_)
 refine aF Tryz.call162 (me ((bS key 54)++bl) zi (hs10.eU 0 rfl) (lz (oD (by first|omega|assumption) hb1 64) hb2) (λw h=>h.rows 0 rfl aj.size _) hs10) ?_
 rintro v14 w15 ⟨rfl,hs13⟩
 refine Lo (Dz ?_)
 refine ar.alloc rfl rfl zk (z:=.agg (aO.cells aH)) zk hs13 (cs:=aO.cells aH) zk ?_
 intro b16 w17 hs18
 refine Lo (Dz ?_)
 refine ar.store rfl rfl zk (b:=b16) (off:=0) (v:=.agg (ae af (dx ((bS key 54)++bl)))) zk zk (ti:=Tryz.t34) zk hs18 0 rfl (bQ aj (show(dx ((bS key 54)++bl)).length=32 from(cv _)) zk) (cX aj) (cJ aj (show(dx ((bS key 54)++bl)).length=32 from(cv _)) zk) (cs':=ae af (dx ((bS key 54)++bl))) (L':=(ah b16 (ae af (dx ((bS key 54)++bl))) 34)::Sl ad11 c12 5 1 af ((bS key 54)++bl)::ah b1 (aO.cells aH) 34::L) (dz aj (show(dx ((bS key 54)++bl)).length=32 from(cv _)) zk) rfl ?_
 intro w19 hs20
 refine Lo (Ld (Lt (Ls (Dz ?_))))
 refine aE.aV [0,1,0,7,15,31] (.rd 0 (.rd 2 (.ef 1 (.ef 3 (.ef 4 (.ef 5 .done)))))) zk zk ai zk hs20 ?_
 intro w21 hs22 hw23
 refine Zj (Hg 2 (.cI (zL b16 0 32 32) (.sub 0 32)) [.prop (((none:Option Operand)=none->(0:Nat)=0)/\((none:Option Operand)=none->(32:Nat)=32)/\(0:Nat)<=32/\(32:Nat)<=32),.prop (Value.slice (some (if 32=0 then Addr.mk b16 0 none else (Addr.mk b16 0 none).add (0*1))) (32-0) (32-0)=Value.slice (some ⟨b16,0,none⟩) 32 32)] (aB ⟨(by first|(intro _;rfl)|(intro hc;cases hc)),(by first|(intro _;rfl)|(intro hc;cases hc)),za,za⟩ (aB (cw _ _ _ _ _ zf) av)) Hz) ?_
 refine aF Tryz.call163 (oE key 92 zi hnk (λw h=>hr1 _ (h.drop 3)) hs22) ?_
 rintro v27 w28 ⟨ao24,co25,rfl,hs26⟩
 refine⟨bw (n:=[.prop (((none:Option Operand)=none->(0:Nat)=0)/\((none:Option Operand)=none->(32:Nat)=32)/\(0:Nat)<=32/\(32:Nat)<=32),.prop (Value.slice (some (if 32=0 then Addr.mk b16 0 none else (Addr.mk b16 0 none).add (0*1))) (32-0) (32-0)=Value.slice (some ⟨b16,0,none⟩) 32 32)]) zk (aB ⟨(by first|(intro _;rfl)|(intro hc;cases hc)),(by first|(intro _;rfl)|(intro hc;cases hc)),za,za⟩ (aB (cw _ _ _ _ _ zf) av)),?_⟩
 refine ar.append rfl zk aJ aj (ad:=ao24) (c:=co25) (xs:=bS key 92) (ys:=dx ((bS key 54)++bl)) (adx:=some ⟨b16,0,none⟩) (cx:=32) (0:Int) zk hs26 (au hs26 1 rfl aj.size (0:Int)) (λh=>nomatch h) zm zm ?_
 intro ad31 c32 w29 hs30
 refine Lo (Dz ?_)
 refine aF Tryz.call162 (me ((bS key 92)++(dx ((bS key 54)++bl))) zi (hs30.eU 0 rfl) (lz (oD (by first|omega|assumption) hb1 64) (AN _)) (λw h=>h.rows 0 rfl aj.size _) hs30) ?_
 rintro v34 w35 ⟨rfl,hs33⟩
 refine Lo (Dz ?_)
 refine ar.store rfl rfl zk (b:=b1) (off:=0) (v:=.agg (ae af (dx ((bS key 92)++(dx ((bS key 54)++bl)))))) zk zk (ti:=Tryz.t34) zk hs33 3 rfl (bQ aj (show(dx ((bS key 92)++(dx ((bS key 54)++bl)))).length=32 from(cv _)) zk) (cX aj) (cJ aj (show(dx ((bS key 92)++(dx ((bS key 54)++bl)))).length=32 from(cv _)) zk) (cs':=ae af (dx ((bS key 92)++(dx ((bS key 54)++bl))))) (L':=(Sl ad31 c32 5 1 af ((bS key 92)++(dx ((bS key 54)++bl))))::ah b16 (ae af (dx ((bS key 54)++bl))) 34::Sl ad11 c12 5 1 af ((bS key 54)++bl)::ah b1 (ae af (dx ((bS key 92)++(dx ((bS key 54)++bl))))) 34::L) (dz aj (show(dx ((bS key 92)++(dx ((bS key 54)++bl)))).length=32 from(cv _)) zk) rfl ?_
 intro w36 hs37
 refine Lo (Ld (Lt (Le (Dz ?_))))
 refine aw.done (.inl rfl) (v:=.agg (ae af (dx ((bS key 92)++(dx ((bS key 54)++bl)))))) (λa hf=>ct rfl zk (ti:=Tryz.t34) zk zk (vs:=ae af (dx ((bS key 92)++(dx ((bS key 54)++bl))))) (bt aj (show(dx ((bS key 92)++(dx ((bS key 54)++bl)))).length=32 from(cv _)) zk) (hs37.cells 3 0 rfl zG) a hf) ?_
 have hs38:=hs37.dr 4
 exact⟨(by rw [BX za]),hs38⟩
theorem vH {w0 w:World}{L:List aI}{ad:Option Addr}{c:Nat}(l:List Int) (n:Int) (hl:l.length<=900000) (hn0:ad=none->c=0) (hn:0<=n/\n<=18446744073709551615) (hr:∀ w,St w0 L w->ag w ad l.length 1 (λk=>af (l.getD k 0))) (hs:St w0 L w):Calls Tryz.prog 121 #[.slice ad l.length c,.int .u64 n,.int .i64 8] w (aZ λrv w'=>∃ (ao:Option Addr) (co:Nat),rv=.slice ao ((l++wd n).length) co/\St w0 (Sl ao co 5 1 af (l++wd n)::L) w'):=by
 refine enter (args:=[.slice ad l.length c,.int .u64 n,.int .i64 8]) Tryz.func121 rfl Tryz.ntmps121 (Nat.le_of_ble_eq_true zk) ?_
 refine Zn [(0,.slice ad l.length c),(1,.int .u64 n),(2,.int .i64 8)] ?_
 refine Zs ?_
 refine bU (.rd 0 .done) ?_
 refine Zr 0 1 [] ?_
 refine Zd (Zt (Zs ?_))
 refine bU (.ef 0 (.rd 1 (.ef 2 (.rd 3 .done)))) ?_
 refine ar.eA rfl zk (t:=85) (e:=5) zk zk (ti:=Tryz.t5) zk hs ?_
 intro b1 w2 hs3 hz4
 have hs5:St w0 (Sl (some ⟨b1,0,none⟩) 0 5 1 af ([]:List Int)::L) w2:=St.ey (l:=([]:List Int)) (f:=af) hs3 hz4 aj.size zh zk
 refine⟨cK,?_⟩
 refine Zr 1 1 [] ?_
 refine ar.append rfl zk aJ aj (ad:=some ⟨b1,0,none⟩) (c:=0) (xs:=([]:List Int)) (ys:=l) (adx:=ad) (cx:=c) (0:Int) zk hs5 (hr _ (hs5.drop 1)) hn0 (by first|omega|(simp only [List.length_nil];omega)|(rw [hp.2.2,List.length_append,ej];simp only [List.length_cons,List.length_nil];omega)) (by first|omega|(simp only [List.length_nil];omega)|(rw [hp.2.2,List.length_append,ej];simp only [List.length_cons,List.length_nil];omega)) ?_
 intro ad8 c9 w6 hs7
 refine⟨cK,?_⟩
 refine Zr 3 1 [] ?_
 refine Zd (Zt (Zs (Zs ?_)))
 refine bU (.rd 0 (.rd 1 (.rd 2 .done))) ?_
 refine Zr 0 3 [] ?_
 refine Zd (Zt (Zb ?_))
 refine aE.loop (T:=Nat×Int×(List Int)×(Option Addr)×Nat) (λgg=>[(1,.int .u64 n),(6,.slice none 0 0),(7,.slice gg.2.2.2.1 gg.2.2.1.length gg.2.2.2.2),(8,.int .i64 gg.2.1)]) (λgg w=>(gg.1<=8/\gg.2.1=7-(gg.1:Nat)/\gg.2.2.1=l++sF n gg.1)/\St w0 (Sl gg.2.2.2.1 gg.2.2.2.2 5 1 af gg.2.2.1::L) w) (λgg=>8-gg.1) (0,7,l,ad8,c9) [1,6,7,8] zk ⟨⟨by first|omega|(simp only;omega),by first|omega|(simp only;omega),by simp only [List.nil_append];exact(List.append_nil _).symm⟩,hs7⟩ ?_
 rintro⟨x,z,q,ad1,c1⟩ w10 ⟨hp0,hs11⟩
 have hp:x<=8/\z=7-(x:Nat)/\q=l++sF n x:=hp0
 have hs12:St w0 (Sl ad1 c1 5 1 af q::L) w10:=hs11
 refine Zn [(1,.int .u64 n),(6,.slice none 0 0),(7,.slice ad1 q.length c1),(8,.int .i64 z)] ?_
 refine Zs (Zs ?_)
 refine bU (.rd 0 (.rd 1 .done)) ?_
 refine Zr 0 2 [] ?_
 refine Zd (Zt ?_)
 refine cS (t:=decide ((z:Int) >= 0)) (λh13=>?_) (λh13=>?_)
 ·have h13':(z:Int) >= 0:=of_decide_eq_true h13
  refine Zk (Zt (Zs (Zb ?_)))
  refine bU (.rd 0 (.rd 1 (.rd 2 (.rd 3 (.rd 4 (.rd 5 (.rd 6 (.ef 7 (.ef 8 (.rd 9 .done)))))))))) ?_
  refine Zp 0 7 [(3,.cI (.int .i64 (8*z)) (.gen [])),(5,.shift (aM .u64 n (IntKind.u64.wrap (8*z))))] [(3,[.prop (Value.int .i64 (IntKind.i64.wrap (8*z))=Value.int .i64 (8*z))]),(5,[.prop ((0:Int)<=IntKind.u64.wrap (8*z)/\Int.fdiv n (2 ^ (min (Int.toNat (IntKind.u64.wrap (8*z))) (IntKind.bits .u64)))=aM .u64 n (IntKind.u64.wrap (8*z)))])] (ak (aB (dD za za) av) (ak (aB ⟨(by first|omega|exact bf rfl _),rfl⟩ av) cW)) ?_
  refine ar.aW rfl zk (t:=85) (e:=5) (n:=1) (ps:=[(0,.int .u8 (IntKind.u8.wrap (aM .u64 n (IntKind.u64.wrap (8*z)))))]) zk zk (ti:=Tryz.t5) (z:=.int .u8 0) zk zk zf zf (cs:=#[.int .u8 (IntKind.u8.wrap (aM .u64 n (IntKind.u64.wrap (8*z))))]) zk hs12 ?_
  intro b14 w15 hs16 hz17
  have hs18:St w0 (Sl (some ⟨b14,0,none⟩) 1 5 1 af ([(IntKind.u8.wrap (aM .u64 n (IntKind.u64.wrap (8*z))):Int)])::Sl ad1 c1 5 1 af q::L) w15:=St.ey (l:=[(IntKind.u8.wrap (aM .u64 n (IntKind.u64.wrap (8*z))):Int)]) (f:=af) hs16 hz17 aj.size zh zk
  refine⟨cK,?_⟩
  have hs21:=hs18.pl 1
  refine ar.append rfl zk aJ aj (ad:=ad1) (c:=c1) (xs:=q) (ys:=[(IntKind.u8.wrap (aM .u64 n (IntKind.u64.wrap (8*z))):Int)]) (adx:=some ⟨b14,0,none⟩) (cx:=1) (0:Int) zk hs21 (hs21.rows 1 rfl aj.size (0:Int)) (λh=>nomatch h) (by first|omega|(simp only [List.length_nil];omega)|(rw [hp.2.2,List.length_append,ej];simp only [List.length_cons,List.length_nil];omega)) (by first|omega|(simp only [List.length_nil];omega)|(rw [hp.2.2,List.length_append,ej];simp only [List.length_cons,List.length_nil];omega)) ?_
  intro ad22 c23 w19 hs20
  refine⟨cK,?_⟩
  refine Zr 9 1 [] ?_
  refine Zd (Zm (Zt ?_))
  refine bU (.rd 0 (.rd 1 (.rd 2 .done))) ?_
  refine Zp 0 3 [(1,.cI (.int .i64 (z-1)) (.gen []))] [(1,[.prop (Value.int .i64 (IntKind.i64.wrap (z-1))=Value.int .i64 (z-1))])] (ak (aB (dD za za) av) cW) ?_
  refine Zd ?_
  have hs24:=(hs20.pl 0).pl 1
  have hs25:=hs24.dr 1
  exact aw.back (x+1,z-1,q++([(IntKind.u8.wrap (aM .u64 n (IntKind.u64.wrap (8*z))):Int)]),ad22,c23) [1,6,7,8] zk (by show 8-(x+1)<8-x;omega) ⟨(by refine⟨by first|omega|(simp only;omega),by first|omega|(simp only;omega),?_⟩;rw [hp.2.2,List.append_assoc,hp.2.1];exact congrArg (l++·) (sL n x za)),hs25⟩
 ·have h13':¬ ((z:Int) >= 0):=of_decide_eq_false h13
  refine Zx (aw.da (aw.dc (aw.jR (Zt (Zs ?_)))))
  refine bU (.rd 0 (.rd 1 .done)) ?_
  refine Zr 0 2 [] ?_
  refine Zd (Zt (Ze ?_))
  refine bg (v:=.slice ad1 q.length c1) ?_
  have hx:x=8:=za
  have hq:q=l++wd n:=by rw [hp.2.2,hx];rfl
  subst hq
  exact⟨ad1,c1,rfl,hs12⟩
theorem tq {w0 w:World}{L:List aI}{ad:Option Addr}{c:Nat}(l:List Int) (n:Int) (hl:l.length<=900000) (hn0:ad=none->c=0) (hn:0<=n/\n<=18446744073709551615) (hr:∀ w,St w0 L w->ag w ad l.length 1 (λk=>af (l.getD k 0))) (hs:St w0 L w):Calls Tryz.prog 78 #[.slice ad l.length c,.int .u64 n] w (aZ λrv w'=>∃ (ao:Option Addr) (co:Nat),rv=.slice ao ((l++wd n).length) co/\St w0 (Sl ao co 5 1 af (l++wd n)::L) w'):=by
 refine enter (args:=[.slice ad l.length c,.int .u64 n]) Tryz.func78 rfl Tryz.ntmps78 (Nat.le_of_ble_eq_true zk) ?_
 refine Zn [(0,.slice ad l.length c),(1,.int .u64 n)] ?_
 refine Zs ?_
 refine bU (.rd 0 .done) ?_
 refine Zr 0 1 [] ?_
 refine Zd (Zt (Zs ?_))
 refine bU (.rd 0 (.rd 1 (.ef 2 (.rd 3 .done)))) ?_
 refine Zr 0 2 [] ?_
 refine aF (f:=121) (args:=#[.slice ad l.length c,.int .u64 n,.int .i64 8]) Tryz.call121 (vH l n zi hn0 za (λw h=>hr _ (h.drop 0)) hs) ?_
 rintro v4 w5 ⟨ao1,co2,rfl,hs3⟩
 refine⟨cK,?_⟩
 refine Zr 3 1 [] ?_
 refine Zd (Zt (Ze ?_))
 refine bg (v:=.slice ao1 ((l++wd n).length) co2) ?_
 exact⟨ao1,co2,rfl,hs3⟩
theorem xq {wrd:ByteArray}{i:Int}(h:wrd.size<=1000):dx (bF wrd++wd i)=ow wrd i:=by
 unfold ow
 rw [rI (by rw [cu];omega) (by rw [List.nil_append,aP];decide),List.nil_append]
theorem AQ (wrd:ByteArray) (i:Int):∀ z∈ow wrd i,0<=z/\z<256:=ju _ 8
theorem yw {w0 w:World}{L:List aI}(wrd:ByteArray) (i:Int) (most:Int) (hi:1<=i) (him:i<=most) (hmost:most<=100) (hws:wrd.size<=1000) (hwz:wrd.size<=1000000000) (hs:St w0 L w):Calls Tryz.prog 164 #[.string wrd,.int .i64 i,.int .i64 most] w (aZ λrv w'=>∃ (ao:Option Addr) (co:Nat),rv=.slice ao ((ow wrd i).length) co/\St w0 (Sl ao co 5 1 af (ow wrd i)::L) w'):=by
 refine enter (args:=[.string wrd,.int .i64 i,.int .i64 most]) Tryz.func164 rfl Tryz.ntmps164 (Nat.le_of_ble_eq_true zk) ?_
 refine Zn [(0,.string wrd),(1,.int .i64 i),(2,.int .i64 most)] ?_
 refine Zs ?_
 refine bU (.rd 0 .done) ?_
 refine Zr 0 1 [] ?_
 refine Zd (Zt (Zs (Zs ?_)))
 refine aE.join (T:=Unit) (E:=λ_=>[(14,.bool ((decide ((i:Int)<1)) || (decide ((i:Int)>most)))),(6,.slice none 0 0),(0,.string wrd),(1,.int .i64 i)]) (F:=λ_ w=>St w0 L w) ?_ ?_
 ·refine bU (.rd 0 (.rd 1 (.rd 2 (.rd 3 (.rd 4 (.rd 5 (.rd 6 .done))))))) ?_
  refine Zr 0 3 [] ?_
  rcases Bool.eq_false_or_eq_true (decide ((i:Int)<1)) with h1|h1
  ·refine di 10 true h1 ?_
   have h1':(i:Int)<1:=of_decide_eq_true h1
   refine Zr 3 4 [] ?_
   refine Zd ?_
   refine aw.pick [14,6,0,1] (S':=[(14,.bool true),(6,.slice none 0 0),(0,.string wrd),(1,.int .i64 i)]) zk ?_
   exact aw.bD () (by first|rfl|(simp only [h1,Bool.not_true,Bool.not_false,Bool.true_or,Bool.false_or,Bool.true_and,Bool.false_and,Bool.or_true,Bool.or_false,Bool.and_true,Bool.and_false];done)|(simp [h1];done)) hs
  ·refine di 10 false h1 ?_
   have h1':¬ ((i:Int)<1):=of_decide_eq_false h1
   refine Zr 3 4 [] ?_
   refine Zd ?_
   refine aw.pick [14,6,0,1] (S':=[(14,.bool (decide ((i:Int)>most))),(6,.slice none 0 0),(0,.string wrd),(1,.int .i64 i)]) zk ?_
   exact aw.bD () (by first|rfl|(simp only [h1,Bool.not_true,Bool.not_false,Bool.true_or,Bool.false_or,Bool.true_and,Bool.false_and,Bool.or_true,Bool.or_false,Bool.and_true,Bool.and_false];done)|(simp [h1];done)) hs
 intro _ w2 hs3
 refine Zt ?_
 refine cS (t:=(decide ((i:Int)<1)) || (decide ((i:Int)>most))) (λh4=>?_) (λh4=>?_)
 ·exfalso;rcases Bool.or_eq_true_iff.1 h4 with h9|h9
  ·have:=of_decide_eq_true h9;omega
  ·have:=of_decide_eq_true h9;omega
 ·have h4a:(decide ((i:Int)<1))=false:=(Bool.or_eq_false_iff.1 h4).1
  have h4a':¬ ((i:Int)<1):=of_decide_eq_false h4a
  have h4b:(decide ((i:Int)>most))=false:=(Bool.or_eq_false_iff.1 h4).2
  have h4b':¬ ((i:Int)>most):=of_decide_eq_false h4b
  refine Zk (Zt (Zs ?_))
  refine bU (.rd 0 (.ef 1 (.rd 2 (.rd 3 (.ef 4 (.ef 5 (.ef 6 (.ef 7 .done)))))))) ?_
  refine Zr 0 1 [] ?_
  refine ar.td rfl zk (src:=9) (dst:=85) (e:=5) (f:=af) rfl wrd zk zk zk zk hwz hs3 ?_
  intro b5 m6 w7 hs8
  have hsb:=cu wrd
  refine⟨cK,?_⟩
  refine Zp 2 2 [(3,.cI (.int .u64 i) (.gen []))] [(3,[.prop (Value.int .u64 (IntKind.u64.wrap i)=Value.int .u64 i)])] (ak (aB (nB za za) av) cW) ?_
  refine aF (f:=78) (args:=#[zL b5 0 ((bF wrd).length) ((bF wrd).length+m6),.int .u64 i]) Tryz.call78 (tq (bF wrd) i zi (λh=>nomatch h) za (λw h=>mF h 0 rfl) hs8) ?_
  rintro v12 w13 ⟨ao9,co10,rfl,hs11⟩
  refine⟨cK,?_⟩
  refine aF (f:=162) (args:=#[.slice ao9 (((bF wrd)++wd i).length) co10]) Tryz.call162 (me ((bF wrd)++wd i) zi (hs11.eU 0 rfl) (lz (AO _) (xp _)) (λw h=>h.rows 0 rfl aj.size _) hs11) ?_
  rintro v15 w16 ⟨rfl,hs14⟩
  refine⟨cK,?_⟩
  refine ar.alloc rfl rfl zk (z:=.agg (aO.cells aH)) zk hs14 (cs:=aO.cells aH) zk ?_
  intro b17 w18 hs19
  refine⟨cK,?_⟩
  refine ar.store rfl rfl zk (b:=b17) (off:=0) (v:=.agg (ae af (dx ((bF wrd)++wd i)))) zk zk (ti:=Tryz.t34) zk hs19 0 rfl (bQ aj (show(dx ((bF wrd)++wd i)).length=32 from(cv _)) zk) (cX aj) (cJ aj (show(dx ((bF wrd)++wd i)).length=32 from(cv _)) zk) (cs':=ae af (dx ((bF wrd)++wd i))) (L':=(ah b17 (ae af (dx ((bF wrd)++wd i))) 34)::Sl ao9 co10 5 1 af ((bF wrd)++wd i)::ah b5 (ae af (bF wrd++List.replicate m6 0)) 5::L) (dz aj (show(dx ((bF wrd)++wd i)).length=32 from(cv _)) zk) rfl ?_
  intro w20 hs21
  refine⟨cK,?_⟩
  refine Zd (Zt (Zs ?_))
  refine bU (.ef 0 (.rd 1 (.ef 2 (.rd 3 .done)))) ?_
  refine ar.eA rfl zk (t:=85) (e:=5) zk zk (ti:=Tryz.t5) zk hs21 ?_
  intro b22 w23 hs24 hz25
  have hs26:St w0 (Sl (some ⟨b22,0,none⟩) 0 5 1 af ([]:List Int)::ah b17 (ae af (dx ((bF wrd)++wd i))) 34::Sl ao9 co10 5 1 af ((bF wrd)++wd i)::ah b5 (ae af (bF wrd++List.replicate m6 0)) 5::L) w23:=St.ey (l:=([]:List Int)) (f:=af) hs24 hz25 aj.size zh zk
  refine⟨cK,?_⟩
  refine Zp 1 1 [(1,.cI (zL b17 0 32 32) (.sub 0 32))] [(1,[.prop (((none:Option Operand)=none->(0:Nat)=0)/\((none:Option Operand)=none->(32:Nat)=32)/\(0:Nat)<=32/\(32:Nat)<=32),.prop (Value.slice (some (if 32=0 then Addr.mk b17 0 none else (Addr.mk b17 0 none).add (0*1))) (32-0) (32-0)=Value.slice (some ⟨b17,0,none⟩) 32 32)])] (ak (aB ⟨(by first|(intro _;rfl)|(intro hc;cases hc)),(by first|(intro _;rfl)|(intro hc;cases hc)),za,za⟩ (aB (cw _ _ _ _ _ zf) av)) cW) ?_
  refine ar.append rfl zk aJ aj (ad:=some ⟨b22,0,none⟩) (c:=0) (xs:=([]:List Int)) (ys:=dx ((bF wrd)++wd i)) (adx:=some ⟨b17,0,none⟩) (cx:=32) (0:Int) zk hs26 (au hs26 1 rfl aj.size (0:Int)) (λh=>nomatch h) zm zm ?_
  intro ad29 c30 w27 hs28
  refine⟨cK,?_⟩
  refine Zr 3 1 [] ?_
  refine Zd (Zt (Ze ?_))
  refine bg (v:=.slice ad29 ((dx ((bF wrd)++wd i)).length) c30) ?_
  have hs31:=(((hs28.pl 0).pl 3).pl 3).pl 3
  have hs32:=hs31.dr 3
  exact⟨ad29,c30,by simp only [xq hws,js,cv,List.length_append,List.length_nil,Nat.zero_add],by have h9:=hs32;rw [List.nil_append,xq hws] at h9;exact h9⟩
theorem yx {w0 w:World}{L:List aI}(i:Int) (hi:1<=i) (him:i<=11) (hs:St w0 L w):Calls Tryz.prog 120 #[.int .i64 i] w (aZ λrv w'=>∃ (ao:Option Addr) (co:Nat),rv=.slice ao ((fB i).length) co/\St w0 (Sl ao co 5 1 af (fB i)::L) w'):=by
 refine bp Tryz.func120 Tryz.ntmps120 ?_
 refine En (Ls (La (Lt (Ls (Lg [1] (Lu (Dz ?_)))))))
 refine aF Tryz.call164 (yw (⟨#[114,97,116,99,104,101,116,32,114,101,112,108,105,99,97]⟩:ByteArray) i 11 za za za zf zf hs) ?_
 rintro v4 w5 ⟨ao1,co2,rfl,hs3⟩
 refine Lo (aL (Lt (Le (Dz ?_))))
 refine bg (v:=.slice ao1 ((ow (⟨#[114,97,116,99,104,101,116,32,114,101,112,108,105,99,97]⟩:ByteArray) i).length) co2) ?_
 exact⟨ao1,co2,rfl,hs3⟩
theorem yy {w0 w:World}{L:List aI}{adb:Option Addr}{cb:Nat}(i:Int) (n:Int) (bl:List Int) (hi:1<=i) (him:i<=11) (hn:0<=n/\n<18446744073709551616) (hb:bl.length<=2000) (hnb:adb=none->cb=0) (hb2:∀ z∈bl,0<=z/\z<256) (hr:∀ w,St w0 L w->ag w adb bl.length 1 (λk=>af (bl.getD k 0))) (hs:St w0 L w):Calls Tryz.prog 77 #[.int .i64 i,.int .u64 n,.slice adb bl.length cb] w (aZ λrv w'=>rv=.agg (ae af (BQ i n bl))/\St w0 L w'):=by
 refine bp Tryz.func77 Tryz.ntmps77 ?_
 refine En (Ls (Lg [0] (Dz ?_)))
 refine ar.alloc rfl rfl zk (z:=.agg (aO.cells aH)) zk hs (cs:=aO.cells aH) zk ?_
 intro b1 w2 hs3
 refine Lo (Ld (Lt (Ls (Lg [1,3,5,6,7] (Lu (Dz ?_))))))
 refine aF Tryz.call120 (yx i za za hs3) ?_
 rintro v7 w8 ⟨ao4,co5,rfl,hs6⟩
 refine Lo (Lu (Dz ?_))
 have hs9:=St.bW hs6 5 1 af
 refine aF (f:=78) (args:=#[.slice none (([]:List Int).length) 0,.int .u64 n]) Tryz.call78 (eH ([]:List Int) n zi za hs9) ?_
 rintro v13 w14 ⟨ao10,co11,rfl,hs12⟩
 refine Lo (Lu (Dz ?_))
 refine ar.append rfl zk aJ aj (ad:=ao10) (c:=co11) (xs:=([]:List Int)++wd n) (ys:=bl) (adx:=adb) (cx:=cb) (0:Int) zk hs12 (hr _ (hs12.drop 3)) hnb zm zm ?_
 intro ad17 c18 w15 hs16
 refine Lo (Dz ?_)
 refine aF Tryz.call119 (AP (fB i) ((([]:List Int)++wd n)++bl) zi (hs16.eU 1 rfl) zi (hs16.eU 0 rfl) (AQ _ _) (lz (lz (λz hz=>nomatch hz) (xp _)) hb2) (λw h=>h.rows 1 rfl aj.size _) (λw h=>h.rows 0 rfl aj.size _) hs16) ?_
 rintro v20 w21 ⟨rfl,hs19⟩
 refine Lo (Dz ?_)
 refine ar.store rfl rfl zk (b:=b1) (off:=0) (v:=.agg (ae af (gz (fB i) ((([]:List Int)++wd n)++bl)))) zk zk (ti:=Tryz.t34) zk hs19 2 rfl (bQ aj (show(gz (fB i) ((([]:List Int)++wd n)++bl)).length=32 from(ea _ _)) zk) (cX aj) (cJ aj (show(gz (fB i) ((([]:List Int)++wd n)++bl)).length=32 from(ea _ _)) zk) (cs':=ae af (gz (fB i) ((([]:List Int)++wd n)++bl))) (L':=(Sl ad17 c18 5 1 af ((([]:List Int)++wd n)++bl))::Sl ao4 co5 5 1 af (fB i)::ah b1 (ae af (gz (fB i) ((([]:List Int)++wd n)++bl))) 34::L) (dz aj (show(gz (fB i) ((([]:List Int)++wd n)++bl)).length=32 from(ea _ _)) zk) rfl ?_
 intro w22 hs23
 refine Lo (Ld (Lt (Le (Dz ?_))))
 refine aw.done (.inl rfl) (v:=.agg (ae af (gz (fB i) ((([]:List Int)++wd n)++bl)))) (λa hf=>ct rfl zk (ti:=Tryz.t34) zk zk (vs:=ae af (gz (fB i) ((([]:List Int)++wd n)++bl))) (bt aj (show(gz (fB i) ((([]:List Int)++wd n)++bl)).length=32 from(ea _ _)) zk) (hs23.cells 2 0 rfl zG) a hf) ?_
 have hs24:=hs23.dr 3
 exact⟨rfl,hs24⟩
theorem vI {w0 w:World}{L:List aI}{adb:Option Addr}{cb:Nat}(i n:Int) (bl:List Int) (hi:1<=i) (him:i<=11) (hn:0<=n/\n<18446744073709551616) (hb:bl.length<=2000) (hnb:adb=none->cb=0) (hb2:∀ z∈bl,0<=z/\z<256) (hr:∀ w,St w0 L w->ag w adb bl.length 1 (λk=>af (bl.getD k 0))) (hs:St w0 L w) :
 Calls Tryz.prog 77 #[.int .i64 i,.int .u64 n,.slice adb bl.length cb] w (aZ λrv w'=>rv=.agg (aO.cells (eM i n bl))/\St w0 L w'):=by
 rw [eM,<- Dw (jt i n bl)]
 exact yy i n bl hi him hn hb hnb hb2 hr hs
theorem yz {w0 w:World}{L:List aI}{adb:Option Addr}{cb:Nat}(i:Int) (n:Int) (bl:List Int) (t:aO) (hi:1<=i) (him:i<=11) (hn1:1<=n) (hn2:n<=65536) (hb:bl.length<=1024) (hnb:adb=none->cb=0) (hb2:∀ z∈bl,0<=z/\z<256) (hr:∀ w,St w0 L w->ag w adb bl.length 1 (λk=>af (bl.getD k 0))) (hs:St w0 L w):Calls Tryz.prog 33 #[.int .i64 i,.int .u64 n,.slice adb bl.length cb,.agg (aO.cells t)] w (aZ λrv w'=>rv=.bool (decide (t=eM i n bl))/\St w0 L w'):=by
 refine bp Tryz.func33 Tryz.ntmps33 ?_
 refine En (Ls (Lg [0] (Dz ?_)))
 refine ar.box rfl rfl zk (v:=.agg (aO.cells t)) zk hs (cs:=aO.cells t) zk ?_
 intro b1 w2 hs3
 refine Lo (aL (Lt (Ls (Dz ?_))))
 refine aE.aV [0,1,3,7,15,31,63,127,255,511,1023,2047,4095,8191,16383,32767,65535,131071,262143,524287,1048575,1048575,1048575,1048575,15728639,33554431,67108863,134217727] (.rd 0 (.rd 1 (.rd 2 (.rd 3 (.rd 4 (.rd 5 (.rd 6 (.rd 7 (.rd 8 (.rd 9 (.rd 10 (.rd 11 (.rd 12 (.rd 13 (.rd 14 (.rd 15 (.rd 16 (.rd 17 (.rd 18 (.rd 19 (.rd 20 (.rd 21 (.rd 22 (.rd 23 (.ef 24 (.rd 25 (.rd 26 (.rd 27 .done)))))))))))))))))))))))))))) zk zk ai zk hs3 ?_
 intro w4 hs5 hw6
 refine Zr 0 3 [] ?_
 rcases Bool.eq_false_or_eq_true (decide ((i:Int) >= 1)) with h7|h7
 ·refine di 11 true h7 ?_
  have h7':(i:Int) >= 1:=of_decide_eq_true h7
  refine Zr 3 4 [] ?_
  rcases Bool.eq_false_or_eq_true (decide ((i:Int)<=11)) with h8|h8
  ·refine di 15 true h8 ?_
   have h8':(i:Int)<=11:=of_decide_eq_true h8
   refine Zr 7 4 [] ?_
   rcases Bool.eq_false_or_eq_true (decide ((n:Int) >= 1)) with h9|h9
   ·refine di 19 true h9 ?_
    have h9':(n:Int) >= 1:=of_decide_eq_true h9
    refine Zr 11 4 [] ?_
    rcases Bool.eq_false_or_eq_true (decide ((n:Int)<=65536)) with h10|h10
    ·refine di 23 true h10 ?_
     have h10':(n:Int)<=65536:=of_decide_eq_true h10
     refine Zr 15 5 [] ?_
     rcases Bool.eq_false_or_eq_true (decide (((bl.length:Nat):Int)<=1024)) with h11|h11
     ·refine di 28 true h11 ?_
      have h11':((bl.length:Nat):Int)<=1024:=of_decide_eq_true h11
      refine Zj (du 20 0 0 32 (aO.cells t) hs5 Hz) ?_
      refine aF (f:=77) (args:=#[.int .i64 i,.int .u64 n,.slice adb bl.length cb]) Tryz.call77 (vI i n bl za za za zi hnb hb2 (λw h=>hr _ (h.drop 1)) hs5) ?_
      rintro v13 w14 ⟨rfl,hs12⟩
      refine⟨bw (n:=[.prop (Array.size (aO.cells t)=32),.cells ⟨b1,0,none⟩ (aO.cells t)]) zk (aB zk (dq (hs12.cells 0 0 rfl zk) av)),?_⟩
      refine ar.jY rfl zk (b:=true) (t:=34) (xs:=aO.cells t) (ys:=aO.cells (eM i n bl)) (m:=2) zk zk zf zk (r:=decide (t=(eM i n bl))) (pT  (Ac t (eM i n bl))) ?_
      refine En (aL (Lt (Le (Dz ?_))))
      refine bg (v:=.bool (decide (t=(eM i n bl)))) ?_
      have hs15:=hs12.dr 1
      exact⟨rfl,hs15⟩
     ·refine di 28 false h11 ?_
      have h11':¬ (((bl.length:Nat):Int)<=1024):=of_decide_eq_false h11
      exfalso;omega
    ·refine di 23 false h10 ?_
     have h10':¬ ((n:Int)<=65536):=of_decide_eq_false h10
     exfalso;omega
   ·refine di 19 false h9 ?_
    have h9':¬ ((n:Int) >= 1):=of_decide_eq_false h9
    exfalso;omega
  ·refine di 15 false h8 ?_
   have h8':¬ ((i:Int)<=11):=of_decide_eq_false h8
   exfalso;omega
 ·refine di 11 false h7 ?_
  have h7':¬ ((i:Int) >= 1):=of_decide_eq_false h7
  exfalso;omega
def fl (m:an):Bool:=if cZ m=true then decide (m.tg=eM m.og m.nr (gj m)) else false
theorem Ez {a b:Int}(ha:0<=a/\a<256) (hb:0<=b/\b<256):0<=bN .u8 a b/\bN .u8 a b<256/\(bN .u8 a b=0↔a=b):=by
 obtain⟨a,rfl⟩:∃ n:Nat,a=n:=⟨a.toNat,za⟩
 obtain⟨b,rfl⟩:∃ n:Nat,b=n:=⟨b.toNat,za⟩
 have e:bN .u8 (a:Int) (b:Int)=((a ^^^ b:Nat):Int):=by
  show IntKind.u8.wrap (((BitVec.ofInt 8 (a:Int) ^^^ BitVec.ofInt 8 (b:Int)).toNat:Nat):Int)=_
  rw [BitVec.ofInt_natCast,BitVec.ofInt_natCast,BitVec.toNat_xor,BitVec.toNat_ofNat,BitVec.toNat_ofNat,Nat.mod_eq_of_lt za,Nat.mod_eq_of_lt za]
  have h:=Nat.xor_lt_two_pow (n:=8) (x:=a) (y:=b) za za
  show((a ^^^ b:Nat):Int) % 256=_
  omega
 have h:=Nat.xor_lt_two_pow (n:=8) (x:=a) (y:=b) za za
 rw [e]
 refine⟨za,za,⟨λh0=>?_,λh0=>?_⟩⟩
 ·have h1:a ^^^ b=0:=za
  have h2:a ^^^ (a ^^^ b)=b:=by rw [<- Nat.xor_assoc,Nat.xor_self,Nat.zero_xor]
  rw [h1,Nat.xor_zero] at h2
  omega
 ·have:a=b:=za
  subst this
  rw [Nat.xor_self]
  rfl
theorem E0 {a b:Int}(ha:0<=a/\a<256) (hb:0<=b/\b<256):0<=fV .u8 a b/\fV .u8 a b<256/\(fV .u8 a b=0↔a=0/\b=0):=by
 obtain⟨a,rfl⟩:∃ n:Nat,a=n:=⟨a.toNat,za⟩
 obtain⟨b,rfl⟩:∃ n:Nat,b=n:=⟨b.toNat,za⟩
 have h:=Nat.or_lt_two_pow (n:=8) (x:=a) (y:=b) za za
 have e:fV .u8 (a:Int) (b:Int)=((a ||| b:Nat):Int):=by
  show IntKind.u8.wrap (((BitVec.ofInt 8 (a:Int) ||| BitVec.ofInt 8 (b:Int)).toNat:Nat):Int)=_
  rw [BitVec.ofInt_natCast,BitVec.ofInt_natCast,BitVec.toNat_or,BitVec.toNat_ofNat,BitVec.toNat_ofNat,Nat.mod_eq_of_lt za,Nat.mod_eq_of_lt za]
  show((a ||| b:Nat):Int) % 256=_
  omega
 rw [e]
 refine⟨za,za,⟨λh0=>?_,λh0=>?_⟩⟩
 ·have h1:a ||| b=0:=za
  have h2:a<=a ||| b:=Nat.left_le_or
  have h3:b<=a ||| b:=Nat.right_le_or
  omega
 ·have h1:a=0:=za
  have h2:b=0:=za
  subst h1 h2
  rfl
theorem tr {x y:List Int}(hx:∀ j,0<=x.getD j 0/\x.getD j 0<256) (hy:∀ j,0<=y.getD j 0/\y.getD j 0<256):∀ k,(0<=ot x y k/\ot x y k<256)/\(ot x y k=0↔∀ j,j<k->x.getD j 0=y.getD j 0)
 | 0=>⟨by show(0:Int)<=0/\(0:Int)<256;omega,λ_ j h=>absurd h (Nat.not_lt_zero _),λ_=>rfl⟩
 | k+1=>by
  have ih:=tr hx hy k
  have h1:=Ez (hx k) (hy k)
  have h2:=E0 ih.1 ⟨h1.1,h1.2.1⟩
  refine⟨⟨h2.1,h2.2.1⟩,?_⟩
  show fV .u8 (ot x y k) (bN .u8 (x.getD k 0) (y.getD k 0))=0↔_
  rw [h2.2.2,ih.2,h1.2.2]
  constructor
  ·intro h j hj
   by_cases e:j=k
   ·subst e;exact h.2
   ·exact h.1 j za
  ·exact λh=>⟨λj hj=>h j za,h k za⟩
theorem tt {l:List Int}(h:∀ z∈l,0<=z/\z<256) (j:Nat):0<=l.getD j 0/\l.getD j 0<256:=by
 by_cases hj:j<l.length
 ·exact h _ (eF (d:=(0:Int)) hj)
 ·rw [List.getD_eq_getElem?_getD,List.getElem?_eq_none za]
  decide
theorem AR {t v:aO}(ht:∀ z∈t.toList,0<=z/\z<256) (hv:∀ z∈v.toList,0<=z/\z<256):ov t.toList v.toList=decide (t=v):=by
 have h:=(tr (tt ht) (tt hv) 32).2
 unfold ov
 by_cases e:t=v
 ·subst e
  rw [decide_eq_true rfl,h.2 λ_ _=>rfl]
  rfl
 ·rw [decide_eq_false e]
  refine beq_eq_false_iff_ne.2 λh0=>e ?_
  have h1:=h.1 h0
  have h2:t.toList=v.toList:=List.ext_getElem (by rw [aO.len,aO.len]) λj hj hj'=>by
   rw [aO.len] at hj
   have:=h1 j hj
   rw [List.getD_eq_getElem?_getD,List.getD_eq_getElem?_getD,List.getElem?_eq_getElem (by rw [aO.len];exact hj),List.getElem?_eq_getElem (by rw [aO.len];exact hj)] at this
   exact this
  exact(jh t).symm.trans ((congrArg mY h2).trans (jh v))
theorem BZ {l:List Int}(h:l.length=32):(mY l).toList=l:=by
 unfold mY
 exact List.take_left' h
theorem oF (i n:Int) (bl:List Int):∀ z∈(eM i n bl).toList,0<=z/\z<256:=by
 unfold eM
 rw [BZ (jt i n bl)]
 exact ju _ 8
theorem vJ {w0 w:World}{L:List aI}(m:an) (hm:fa m) (hTab:∀ w,St w0 L w->cQ w) (hr:∀ w,St w0 L w->ag w m.bd.qa m.bd.ql.length 2 (λk=>aT.cells (m.bd.ql.getD k aR))) (hs:St w0 L w):Calls Tryz.prog 171 #[.agg (an.cells m)] w (aZ λrv w'=>rv=.bool (fl m)/\St w0 L w'):=by
 refine bp Tryz.func171 Tryz.ntmps171 ?_
 refine En (Ls (Lg [0] (Dz ?_)))
 refine ar.box rfl rfl zk (v:=.agg (an.cells m)) zk hs (cs:=an.cells m) zk ?_
 intro b1 w2 hs3
 refine Lo (aL (Lt (Ls (Dz ?_))))
 refine aE.aV [0,1,3,7,15,7,39,7,135,7,519,2047,4095,8191] (.rd 0 (.ef 1 (.rd 2 (.rd 3 (.rd 4 (.rd 5 (.rd 6 (.rd 7 (.rd 9 (.rd 10 (.ef 8 (.ef 11 (.rd 12 (.rd 13 .done)))))))))))))) zk zk ai zk hs3 ?_
 intro w4 hs5 hw6
 refine Zj (du 0 0 0 121 (an.cells m) hs5 Hz) ?_
 refine aF (f:=28) (args:=#[.agg (an.cells m)]) Tryz.call28 (gM m zc (λw h=>hr _ (h.drop 1)) hs5) ?_
 rintro v8 w9 ⟨rfl,hs7⟩
 refine Lo (Dz ?_)
 refine Zr 2 1 [] ?_
 rcases Bool.eq_false_or_eq_true (cZ m) with h10|h10
 ·refine di 5 true h10 ?_
  have hmt:=gQ h10
  have htl:=eK h10
  have htb:∀ z∈gj m,0<=z/\z<256:=nc hm
  have hby:gk m=gj m:=if_pos h10
  have hbl:(gk m).length<=1024:=by rw [hby];omega
  refine Zj (Hl 4 0 0 hs7 (Hl 6 0 1 hs7 (du 7 0 0 121 (an.cells m) hs7 (du 10 0 89 32 (aO.cells m.tg) hs7 Hz)))) ?_
  refine aF (f:=114) (args:=#[.agg (an.cells m)]) Tryz.call114 (jm m zc zD (λw h=>hr _ (h.drop 1)) hs7) ?_
  rintro v14 w15 ⟨ao11,co12,rfl,hs13⟩
  refine⟨bw (n:=[.prop (Array.size (aO.cells m.tg)=32),.cells ⟨b1,89,none⟩ (aO.cells m.tg),.cell ⟨b1,1,none⟩ (.int .u64 m.nr),.cell ⟨b1,0,none⟩ (.int .i64 m.og)]) zk (aB zk (dq (hs13.cells 1 89 rfl zk) (aG (hs13.cell 1 rfl zk) (aG (hs13.cell 1 rfl zk) av)))),?_⟩
  refine aF Tryz.call194 (yp m.og m.nr (gj m) m.tg za za za za za (hs13.eU 0 rfl) (Sl.cap (hs13.at_ 0 rfl)) (λw h=>hTab w (h.drop 2)) (λw h=>h.rows 0 rfl aj.size _) hs13) ?_
  rintro v17 w18 ⟨rfl,hs16⟩
  refine Lo (aL (Lt (Le (Dz ?_))))
  refine bg (v:=.bool (ov m.tg.toList (eM m.og m.nr (gj m)).toList)) ?_
  have hs19:=hs16.dr 2
  exact⟨(by unfold fl;rw [if_pos zD,AR hm.tg (oF _ _ _)]),hs19⟩
 ·refine di 5 false h10 ?_
  refine En (Lu (Dz ?_))
  refine ar.skip rfl zk cK ?_
  refine ar.skip rfl zk cK ?_
  refine En (aL (Lt (Le (Dz ?_))))
  refine bg (v:=.bool false) ?_
  have hs20:=hs7.dr 1
  exact⟨(by unfold fl;rw [if_neg (by simp [*])]),hs20⟩
theorem tu {w0 w:World}{L:List aI}(m:an) (hm:fa m) (hr:∀ w,St w0 L w->ag w m.bd.qa m.bd.ql.length 2 (λk=>aT.cells (m.bd.ql.getD k aR))) (hs:St w0 L w):Calls Tryz.prog 9 #[.agg (an.cells m)] w (aZ λrv w'=>rv=.bool (fl m)/\St w0 L w'):=by
 refine bp Tryz.func9 Tryz.ntmps9 ?_
 refine En (Ls (Lg [0] (Dz ?_)))
 refine ar.box rfl rfl zk (v:=.agg (an.cells m)) zk hs (cs:=an.cells m) zk ?_
 intro b1 w2 hs3
 refine Lo (aL (Lt (Ls (Dz ?_))))
 refine aE.aV [0,1,3,7,15,7,39,7,135,7,519,2047,4095,8191] (.rd 0 (.ef 1 (.rd 2 (.rd 3 (.rd 4 (.rd 5 (.rd 6 (.rd 7 (.rd 9 (.rd 10 (.ef 8 (.ef 11 (.rd 12 (.rd 13 .done)))))))))))))) zk zk ai zk hs3 ?_
 intro w4 hs5 hw6
 refine Zj (du 0 0 0 121 (an.cells m) hs5 Hz) ?_
 refine aF (f:=32) (args:=#[.agg (an.cells m)]) Tryz.call32 (qi m zc (λw h=>hr _ (h.drop 1)) hs5) ?_
 rintro v8 w9 ⟨rfl,hs7⟩
 refine Lo (Dz ?_)
 refine Zr 2 1 [] ?_
 rcases Bool.eq_false_or_eq_true (cZ m) with h10|h10
 ·refine di 5 true h10 ?_
  have hmt:=gQ h10
  have htl:=eK h10
  have htb:∀ z∈gj m,0<=z/\z<256:=nc hm
  have hby:gk m=gj m:=if_pos h10
  have hbl:(gk m).length<=1024:=by rw [hby];omega
  refine Zj (Hl 4 0 0 hs7 (Hl 6 0 1 hs7 (du 7 0 0 121 (an.cells m) hs7 (du 10 0 89 32 (aO.cells m.tg) hs7 Hz)))) ?_
  refine aF (f:=34) (args:=#[.agg (an.cells m)]) Tryz.call34 (sW m zc (λw h=>hr _ (h.drop 1)) hs7) ?_
  rintro v14 w15 ⟨ao11,co12,rfl,hs13⟩
  refine⟨bw (n:=[.prop (Array.size (aO.cells m.tg)=32),.cells ⟨b1,89,none⟩ (aO.cells m.tg),.cell ⟨b1,1,none⟩ (.int .u64 m.nr),.cell ⟨b1,0,none⟩ (.int .i64 m.og)]) zk (aB zk (dq (hs13.cells 1 89 rfl zk) (aG (hs13.cell 1 rfl zk) (aG (hs13.cell 1 rfl zk) av)))),?_⟩
  refine aF Tryz.call33 (yz m.og m.nr (gk m) m.tg za za za za za (hs13.eU 0 rfl) (by rw [hby];exact htb) (λw h=>h.rows 0 rfl aj.size _) hs13) ?_
  rintro v17 w18 ⟨rfl,hs16⟩
  refine Lo (aL (Lt (Le (Dz ?_))))
  refine bg (v:=.bool (decide (m.tg=eM m.og m.nr (gk m)))) ?_
  have hs19:=hs16.dr 2
  exact⟨(by unfold fl;rw [if_pos zD,hby]),hs19⟩
 ·refine di 5 false h10 ?_
  refine En (Lu (Dz ?_))
  refine ar.skip rfl zk cK ?_
  refine ar.skip rfl zk cK ?_
  refine En (aL (Lt (Le (Dz ?_))))
  refine bg (v:=.bool false) ?_
  have hs20:=hs7.dr 1
  exact⟨(by unfold fl;rw [if_neg (by simp [*])]),hs20⟩
abbrev aC:=Vector Int 128
def aC.cells (v:aC):Array Value:=#[.int .u8 v[0],.int .u8 v[1],.int .u8 v[2],.int .u8 v[3],.int .u8 v[4],.int .u8 v[5],.int .u8 v[6],.int .u8 v[7],.int .u8 v[8],.int .u8 v[9],.int .u8 v[10],.int .u8 v[11],.int .u8 v[12],.int .u8 v[13],.int .u8 v[14],.int .u8 v[15],.int .u8 v[16],.int .u8 v[17],.int .u8 v[18],.int .u8 v[19],.int .u8 v[20],.int .u8 v[21],.int .u8 v[22],.int .u8 v[23],.int .u8 v[24],.int .u8 v[25],.int .u8 v[26],.int .u8 v[27],.int .u8 v[28],.int .u8 v[29],.int .u8 v[30],.int .u8 v[31],.int .u8 v[32],.int .u8 v[33],.int .u8 v[34],.int .u8 v[35],.int .u8 v[36],.int .u8 v[37],.int .u8 v[38],.int .u8 v[39],.int .u8 v[40],.int .u8 v[41],.int .u8 v[42],.int .u8 v[43],.int .u8 v[44],.int .u8 v[45],.int .u8 v[46],.int .u8 v[47],.int .u8 v[48],.int .u8 v[49],.int .u8 v[50],.int .u8 v[51],.int .u8 v[52],.int .u8 v[53],.int .u8 v[54],.int .u8 v[55],.int .u8 v[56],.int .u8 v[57],.int .u8 v[58],.int .u8 v[59],.int .u8 v[60],.int .u8 v[61],.int .u8 v[62],.int .u8 v[63],.int .u8 v[64],.int .u8 v[65],.int .u8 v[66],.int .u8 v[67],.int .u8 v[68],.int .u8 v[69],.int .u8 v[70],.int .u8 v[71],.int .u8 v[72],.int .u8 v[73],.int .u8 v[74],.int .u8 v[75],.int .u8 v[76],.int .u8 v[77],.int .u8 v[78],.int .u8 v[79],.int .u8 v[80],.int .u8 v[81],.int .u8 v[82],.int .u8 v[83],.int .u8 v[84],.int .u8 v[85],.int .u8 v[86],.int .u8 v[87],.int .u8 v[88],.int .u8 v[89],.int .u8 v[90],.int .u8 v[91],.int .u8 v[92],.int .u8 v[93],.int .u8 v[94],.int .u8 v[95],.int .u8 v[96],.int .u8 v[97],.int .u8 v[98],.int .u8 v[99],.int .u8 v[100],.int .u8 v[101],.int .u8 v[102],.int .u8 v[103],.int .u8 v[104],.int .u8 v[105],.int .u8 v[106],.int .u8 v[107],.int .u8 v[108],.int .u8 v[109],.int .u8 v[110],.int .u8 v[111],.int .u8 v[112],.int .u8 v[113],.int .u8 v[114],.int .u8 v[115],.int .u8 v[116],.int .u8 v[117],.int .u8 v[118],.int .u8 v[119],.int .u8 v[120],.int .u8 v[121],.int .u8 v[122],.int .u8 v[123],.int .u8 v[124],.int .u8 v[125],.int .u8 v[126],.int .u8 v[127]]
abbrev fX:aC:=#v[0,0,0,0,0,0,0,0,0,0,0,0,0,0,0,0,0,0,0,0,0,0,0,0,0,0,0,0,0,0,0,0,0,0,0,0,0,0,0,0,0,0,0,0,0,0,0,0,0,0,0,0,0,0,0,0,0,0,0,0,0,0,0,0,0,0,0,0,0,0,0,0,0,0,0,0,0,0,0,0,0,0,0,0,0,0,0,0,0,0,0,0,0,0,0,0,0,0,0,0,0,0,0,0,0,0,0,0,0,0,0,0,0,0,0,0,0,0,0,0,0,0,0,0,0,0,0,0]
theorem aC.BA (v:aC):aC.cells v=v.toArray.map (Value.int .u8):=by
 apply Array.ext
 ·rw [Array.size_map,v.size_toArray];rfl
 ·intro i h1 h2
  rw [Array.getElem_map]
  have h:i<128:=h1
  match i,h with
  | 0,_=>rfl
  | 1,_=>rfl
  | 2,_=>rfl
  | 3,_=>rfl
  | 4,_=>rfl
  | 5,_=>rfl
  | 6,_=>rfl
  | 7,_=>rfl
  | 8,_=>rfl
  | 9,_=>rfl
  | 10,_=>rfl
  | 11,_=>rfl
  | 12,_=>rfl
  | 13,_=>rfl
  | 14,_=>rfl
  | 15,_=>rfl
  | 16,_=>rfl
  | 17,_=>rfl
  | 18,_=>rfl
  | 19,_=>rfl
  | 20,_=>rfl
  | 21,_=>rfl
  | 22,_=>rfl
  | 23,_=>rfl
  | 24,_=>rfl
  | 25,_=>rfl
  | 26,_=>rfl
  | 27,_=>rfl
  | 28,_=>rfl
  | 29,_=>rfl
  | 30,_=>rfl
  | 31,_=>rfl
  | 32,_=>rfl
  | 33,_=>rfl
  | 34,_=>rfl
  | 35,_=>rfl
  | 36,_=>rfl
  | 37,_=>rfl
  | 38,_=>rfl
  | 39,_=>rfl
  | 40,_=>rfl
  | 41,_=>rfl
  | 42,_=>rfl
  | 43,_=>rfl
  | 44,_=>rfl
  | 45,_=>rfl
  | 46,_=>rfl
  | 47,_=>rfl
  | 48,_=>rfl
  | 49,_=>rfl
  | 50,_=>rfl
  | 51,_=>rfl
  | 52,_=>rfl
  | 53,_=>rfl
  | 54,_=>rfl
  | 55,_=>rfl
  | 56,_=>rfl
  | 57,_=>rfl
  | 58,_=>rfl
  | 59,_=>rfl
  | 60,_=>rfl
  | 61,_=>rfl
  | 62,_=>rfl
  | 63,_=>rfl
  | 64,_=>rfl
  | 65,_=>rfl
  | 66,_=>rfl
  | 67,_=>rfl
  | 68,_=>rfl
  | 69,_=>rfl
  | 70,_=>rfl
  | 71,_=>rfl
  | 72,_=>rfl
  | 73,_=>rfl
  | 74,_=>rfl
  | 75,_=>rfl
  | 76,_=>rfl
  | 77,_=>rfl
  | 78,_=>rfl
  | 79,_=>rfl
  | 80,_=>rfl
  | 81,_=>rfl
  | 82,_=>rfl
  | 83,_=>rfl
  | 84,_=>rfl
  | 85,_=>rfl
  | 86,_=>rfl
  | 87,_=>rfl
  | 88,_=>rfl
  | 89,_=>rfl
  | 90,_=>rfl
  | 91,_=>rfl
  | 92,_=>rfl
  | 93,_=>rfl
  | 94,_=>rfl
  | 95,_=>rfl
  | 96,_=>rfl
  | 97,_=>rfl
  | 98,_=>rfl
  | 99,_=>rfl
  | 100,_=>rfl
  | 101,_=>rfl
  | 102,_=>rfl
  | 103,_=>rfl
  | 104,_=>rfl
  | 105,_=>rfl
  | 106,_=>rfl
  | 107,_=>rfl
  | 108,_=>rfl
  | 109,_=>rfl
  | 110,_=>rfl
  | 111,_=>rfl
  | 112,_=>rfl
  | 113,_=>rfl
  | 114,_=>rfl
  | 115,_=>rfl
  | 116,_=>rfl
  | 117,_=>rfl
  | 118,_=>rfl
  | 119,_=>rfl
  | 120,_=>rfl
  | 121,_=>rfl
  | 122,_=>rfl
  | 123,_=>rfl
  | 124,_=>rfl
  | 125,_=>rfl
  | 126,_=>rfl
  | 127,_=>rfl
  | m+128,h=>omega
theorem aC.len (v:aC):v.toList.length=128:=by simp
theorem aC.at_ (d:aC) (i:Nat) (h:i<128):(aC.cells d)[i]?=some (.int .u8 (d.toList.getD i 0)):=by
 rw [aC.BA,Array.getElem?_map]
 simp [Vector.toList,h]
theorem aC.jU {w0 w:World}{L:List aI}(hs:St w0 L w) (j:Nat){b:Nat}{cs:Array Value}{T:TypeId}(off:Nat) (d:aC) (hj:L[j]?=some (ah b cs T)) (he:cs.extract off (off+128)=aC.cells d):ag w (some ⟨b,off,none⟩) d.toList.length 1 (λk=>af (d.toList.getD k 0)):=by
 refine λ_=>⟨b,off,rfl,λk hk i hi=>?_⟩
 have hk2:k<128:=by rw [aC.len] at hk;exact hk
 obtain rfl:i=0:=za
 have h1:cs[off+k]?=(aC.cells d)[k]?:=by
  rw [<- he,Array.getElem?_extract,if_pos]
  have h2:=congrArg Array.size he
  rw [Array.size_extract] at h2
  have h3:(aC.cells d).size=128:=rfl
  omega
 rw [Nat.mul_one,Nat.add_zero,hs.cell j (off:=off+k) hj (h1.trans (aC.at_ d k hk2))]
 rfl
theorem aC.mW {cs:Array Value}{off k:Nat}{d:aC}(he:cs.extract off (off+128)=aC.cells d) (hk:k<128):cs[off+k*1]?=some (.int .u8 (d.toList.getD k 0)):=by
 have h1:cs[off+k]?=(aC.cells d)[k]?:=by
  rw [<- he,Array.getElem?_extract,if_pos]
  have h2:=congrArg Array.size he
  rw [Array.size_extract] at h2
  have h3:(aC.cells d).size=128:=rfl
  omega
 rw [Nat.mul_one]
 exact h1.trans (aC.at_ d k hk)
def fD (l:List Int):aC:=⟨((l++List.replicate 128 0).take 128).toArray,by rw [List.size_toArray,List.length_take,List.length_append,List.length_replicate];omega⟩
theorem hJ {l:List Int}(h:l.length=128):(fD l).toList=l:=by
 have e:(l++List.replicate 128 0).take 128=l:=List.take_left' h
 show(((l++List.replicate 128 0).take 128).toArray).toList=l
 rw [e]
structure jV where
 b:aC
 lost:Bool
def jV.cells (x:jV):Array Value:=(aC.cells x.b).push (.bool x.lost)
abbrev DM:jV:=⟨fX,false⟩
structure gA where
 at_:Int
 b:aC
def gA.cells (x:gA):Array Value:=#[.int .i64 x.at_,.int .u8 x.b[0],.int .u8 x.b[1],.int .u8 x.b[2],.int .u8 x.b[3],.int .u8 x.b[4],.int .u8 x.b[5],.int .u8 x.b[6],.int .u8 x.b[7],.int .u8 x.b[8],.int .u8 x.b[9],.int .u8 x.b[10],.int .u8 x.b[11],.int .u8 x.b[12],.int .u8 x.b[13],.int .u8 x.b[14],.int .u8 x.b[15],.int .u8 x.b[16],.int .u8 x.b[17],.int .u8 x.b[18],.int .u8 x.b[19],.int .u8 x.b[20],.int .u8 x.b[21],.int .u8 x.b[22],.int .u8 x.b[23],.int .u8 x.b[24],.int .u8 x.b[25],.int .u8 x.b[26],.int .u8 x.b[27],.int .u8 x.b[28],.int .u8 x.b[29],.int .u8 x.b[30],.int .u8 x.b[31],.int .u8 x.b[32],.int .u8 x.b[33],.int .u8 x.b[34],.int .u8 x.b[35],.int .u8 x.b[36],.int .u8 x.b[37],.int .u8 x.b[38],.int .u8 x.b[39],.int .u8 x.b[40],.int .u8 x.b[41],.int .u8 x.b[42],.int .u8 x.b[43],.int .u8 x.b[44],.int .u8 x.b[45],.int .u8 x.b[46],.int .u8 x.b[47],.int .u8 x.b[48],.int .u8 x.b[49],.int .u8 x.b[50],.int .u8 x.b[51],.int .u8 x.b[52],.int .u8 x.b[53],.int .u8 x.b[54],.int .u8 x.b[55],.int .u8 x.b[56],.int .u8 x.b[57],.int .u8 x.b[58],.int .u8 x.b[59],.int .u8 x.b[60],.int .u8 x.b[61],.int .u8 x.b[62],.int .u8 x.b[63],.int .u8 x.b[64],.int .u8 x.b[65],.int .u8 x.b[66],.int .u8 x.b[67],.int .u8 x.b[68],.int .u8 x.b[69],.int .u8 x.b[70],.int .u8 x.b[71],.int .u8 x.b[72],.int .u8 x.b[73],.int .u8 x.b[74],.int .u8 x.b[75],.int .u8 x.b[76],.int .u8 x.b[77],.int .u8 x.b[78],.int .u8 x.b[79],.int .u8 x.b[80],.int .u8 x.b[81],.int .u8 x.b[82],.int .u8 x.b[83],.int .u8 x.b[84],.int .u8 x.b[85],.int .u8 x.b[86],.int .u8 x.b[87],.int .u8 x.b[88],.int .u8 x.b[89],.int .u8 x.b[90],.int .u8 x.b[91],.int .u8 x.b[92],.int .u8 x.b[93],.int .u8 x.b[94],.int .u8 x.b[95],.int .u8 x.b[96],.int .u8 x.b[97],.int .u8 x.b[98],.int .u8 x.b[99],.int .u8 x.b[100],.int .u8 x.b[101],.int .u8 x.b[102],.int .u8 x.b[103],.int .u8 x.b[104],.int .u8 x.b[105],.int .u8 x.b[106],.int .u8 x.b[107],.int .u8 x.b[108],.int .u8 x.b[109],.int .u8 x.b[110],.int .u8 x.b[111],.int .u8 x.b[112],.int .u8 x.b[113],.int .u8 x.b[114],.int .u8 x.b[115],.int .u8 x.b[116],.int .u8 x.b[117],.int .u8 x.b[118],.int .u8 x.b[119],.int .u8 x.b[120],.int .u8 x.b[121],.int .u8 x.b[122],.int .u8 x.b[123],.int .u8 x.b[124],.int .u8 x.b[125],.int .u8 x.b[126],.int .u8 x.b[127]]
abbrev oY:gA:=⟨0,fX⟩
theorem B0:dE gA.cells 129:=⟨λ_=>rfl,λ_=>rfl⟩
theorem DN:ff Tryz.prog 58 242 129 136:=⟨zk,⟨Tryz.t242,.agg (gA.cells oY),zk,zk,zk,zk,zk⟩,zf⟩
abbrev mI:Int->Value:=λn=>.int .i64 n
abbrev pz:aC->Value:=λb=>.agg (jV.cells ⟨b,false⟩)
theorem xr:dI Tryz.prog 57 mI pz 3 159 :=
 dI.now zk ⟨.int .i64,zk,λa b=>by simp [Instr.sameNow,mI,ib],.inl ⟨_,rfl⟩⟩ (λa=>by simp [Instr.sameBits,mI]) (λem a w=>rfl)
def xt (p:Prop):aI:=⟨λ_=>False,λ_=>p,λ_ _ _ h=>h⟩
theorem St.B1 {p:Prop}(h:p){w0 w:World}{L:List aI}(hs:St w0 L w):St w0 (xt p::L) w:=hs.iE.conv (λ_=>h) (λ_ hb=>hb)
def Bd (p:Prop) (l:List aI):aI:=tv (xt p::l)
theorem Bd.open {p:Prop}{l L:List aI}{w0 w:World}(hs:St w0 (Bd p l::L) w):p/\St w0 (l++L) w:=by
 have h:=St.splits (l:=xt p::l) hs
 exact⟨h.at_ 0 rfl,h.tail⟩
theorem Bd.close {p:Prop}{l L:List aI}{w0 w:World}(hp:p) (hs:St w0 (l++L) w):St w0 (Bd p l::L) w:=St.ki (l:=xt p::l) (St.B1 hp hs)
theorem qA {α β:Type} [DecidableEq α] (k q:α) (v:β):∀ m:List (α×β),cT (dj m k v) q=if k=q then some v else cT m q
 | []=>by by_cases h:k=q<;>simp [cT,dj,h]
 | x::m=>by
  have ih:=qA k q v m
  unfold cT at ih ⊢
  by_cases hx:x.1=k
  ·subst hx
   by_cases h:x.1=q<;>simp [dj,h]
  ·by_cases h:k=q
   ·subst h
    simp only [dj,if_neg hx,List.find?_cons,decide_eq_false hx,ih,if_true]
   ·rw [if_neg h] at ih ⊢
    simp only [dj,if_neg hx,List.find?_cons]
    cases hd:decide (x.1=q) with
    | true=>rfl
    | false=>exact ih
structure et where
 sr:Nat
 nw:Nat
 la:Option Addr
 lc:Nat
 m1:List (Int×aC)
 m2:List (Int×aC)
 lo:List gA
def et.ok (g:et) (D:Nat->aC) (k:Nat):Prop:=g.lo.length=k/\∀ a:Nat,(cT g.m2 (a:Int)).getD fX=D a
def Bn (D:Nat->aC) (i:Nat) (b:aC):Nat->aC:=λa=>if i=a then b else D a
theorem et.CZ {g:et}{D:Nat->aC}{k:Nat}(h:g.ok D k) (i:Nat) (b:aC){ad:Option Addr}{c:Nat}{x:gA}:et.ok ⟨g.sr,g.nw,ad,c,g.m1,dj g.m2 (i:Int) b,g.lo++[x]⟩ (Bn D i b) (k+1):=by
 refine⟨by simp [h.1],λa=>?_⟩
 simp only [qA,Bn]
 by_cases hi:i=a
 ·subst hi;simp
 ·rw [if_neg hi,if_neg za]
  exact h.2 a
def DK (d:Nat) (D:Nat->aC) (nk:Nat) (g:et):aI:=Bd (g.ok D nk) [ah d #[.map (some g.sr),.map (some g.nw),.slice g.la g.lo.length g.lc,.bool false,.int .i64 (-1)] 60,bC mI pz g.sr g.m1,bC mI pz g.nw g.m2,Sl g.la g.lc 242 129 gA.cells g.lo]
theorem jv {w0 w:World}{L:List aI}{d:Nat}{sr:Nat}{nw:Nat}{la:Option Addr}{ln:Nat}{lc:Nat}(at_:Int) (ha0:0<=at_) (ha1:at_<32768) (hs:St w0 (ah d #[.map (some sr),.map (some nw),.slice la ln lc,.bool false,.int .i64 (-1)] 60::L) w):Calls Tryz.prog 84 #[zP d 0,.int .i64 at_] w (aZ λrv w'=>rv=.int .i64 0/\St w0 (ah d #[.map (some sr),.map (some nw),.slice la ln lc,.bool false,.int .i64 (-1)] 60::L) w'):=by
 refine enter (args:=[zP d 0,.int .i64 at_]) Tryz.func84 rfl Tryz.ntmps84 (Nat.le_of_ble_eq_true zk) ?_
 refine Zn [(0,zP d 0),(1,.int .i64 at_)] ?_
 refine Zs ?_
 refine bU (.rd 0 .done) ?_
 refine Zr 0 1 [] ?_
 refine Zd (Zt (Zs (Zb (Zs ?_))))
 refine bU (.rd 0 (.rd 1 (.rd 2 .done))) ?_
 refine Zr 0 3 [] ?_
 refine Zd (Zt (y3 (Zs ?_)))
 refine bU (.rd 0 (.rd 1 (.rd 2 (.rd 3 (.rd 4 .done))))) ?_
 refine Zp 0 5 [(3,.gen [.bool false])] [(3,[.cell ⟨d,3,none⟩ (.bool false)])] (ak (aG (hs.cell 0 rfl zk) av) cW) ?_
 refine Zd (Zt (y3 (Zs (Zs ?_))))
 refine bU (.rd 0 (.rd 1 (.rd 2 .done))) ?_
 refine Zr 0 3 [] ?_
 refine Zd (Zt ?_)
 refine cS (t:=decide ((at_:Int)<0)) (λh1=>?_) (λh1=>?_)
 ·have h1':(at_:Int)<0:=of_decide_eq_true h1
  exfalso;omega
 ·have h1':¬ ((at_:Int)<0):=of_decide_eq_false h1
  refine bU (.rd 0 (.rd 1 (.rd 2 .done))) ?_
  refine Zr 0 3 [] ?_
  refine Zd (Zt ?_)
  refine cS (t:=decide ((at_:Int) >= 32768)) (λh2=>?_) (λh2=>?_)
  ·have h2':(at_:Int) >= 32768:=of_decide_eq_true h2
   exfalso;omega
  ·have h2':¬ ((at_:Int) >= 32768):=of_decide_eq_false h2
   refine Zk (Zm (Zt (Zs ?_)))
   refine bU (.rd 0 .done) ?_
   refine Zr 0 1 [] ?_
   refine Zd (Zt (Ze ?_))
   refine bg (v:=.int .i64 0) ?_
   exact⟨rfl,hs⟩
theorem mJ {w0 w:World}{L:List aI}{d:Nat}{sr:Nat}{nw:Nat}{la:Option Addr}{ln:Nat}{lc:Nat}(hs:St w0 (ah d #[.map (some sr),.map (some nw),.slice la ln lc,.bool false,.int .i64 (-1)] 60::L) w):Calls Tryz.prog 125 #[zP d 0] w (aZ λrv w'=>rv=.bool false/\St w0 (ah d #[.map (some sr),.map (some nw),.slice la ln lc,.bool false,.int .i64 (-1)] 60::L) w'):=by
 refine enter (args:=[zP d 0]) Tryz.func125 rfl Tryz.ntmps125 (Nat.le_of_ble_eq_true zk) ?_
 refine Zn [(0,zP d 0)] ?_
 refine Zs ?_
 refine bU (.rd 0 .done) ?_
 refine Zr 0 1 [] ?_
 refine Zd (Zt (Zs (Zb (Zs ?_))))
 refine bU (.rd 0 (.rd 1 (.rd 2 (.rd 3 (.rd 4 (.rd 5 .done)))))) ?_
 refine Zp 0 6 [(3,.gen [.int .i64 (-1)])] [(3,[.cell ⟨d,4,none⟩ (.int .i64 (-1))])] (ak (aG (hs.cell 0 rfl zk) av) cW) ?_
 refine Zd (Zt (y3 (Zs ?_)))
 refine bU (.rd 0 (.rd 1 (.rd 2 (.rd 3 (.rd 4 (.rd 5 .done)))))) ?_
 refine Zp 0 6 [(3,.gen [.int .i64 (-1)])] [(3,[.cell ⟨d,4,none⟩ (.int .i64 (-1))])] (ak (aG (hs.cell 0 rfl zk) av) cW) ?_
 refine Zd (Zt (y3 (Zk (Zm (Zt (Zs ?_))))))
 refine bU (.rd 0 .done) ?_
 refine Zr 0 1 [] ?_
 refine Zd (Zt (Ze ?_))
 refine bg (v:=.bool false) ?_
 exact⟨rfl,hs⟩
theorem hK {w0 w:World}{L:List aI}{d:Nat}{D:Nat->aC}{nk:Nat}{g:et}(hs:St w0 (DK d D nk g::L) w):Calls Tryz.prog 80 #[zP d 0] w (aZ λrv w'=>rv=.bool true/\St w0 (DK d D nk g::L) w'):=by
 obtain⟨hg2,hs10⟩:=Bd.open hs
 have hs1:St w0 (ah d #[.map (some g.sr),.map (some g.nw),.slice g.la g.lo.length g.lc,.bool false,.int .i64 (-1)] 60::bC mI pz g.sr g.m1::bC mI pz g.nw g.m2::Sl g.la g.lc 242 129 gA.cells g.lo::L) w:=hs10
 refine enter (args:=[zP d 0]) Tryz.func80 rfl Tryz.ntmps80 (Nat.le_of_ble_eq_true zk) ?_
 refine Zn [(0,zP d 0)] ?_
 refine Zs ?_
 refine bU (.rd 0 .done) ?_
 refine Zr 0 1 [] ?_
 refine Zd (Zt (Zs ?_))
 refine bU (.rd 0 (.rd 1 (.rd 2 (.rd 3 (.rd 4 (.rd 5 (.rd 6 (.rd 7 (.rd 8 (.rd 9 .done)))))))))) ?_
 refine Zp 0 10 [(6,.gen [.bool false])] [(6,[.cell ⟨d,3,none⟩ (.bool false)])] (ak (aG (hs1.cell 0 rfl zk) av) cW) ?_
 refine Zd (Zt (Ze ?_))
 refine bg (v:=.bool true) ?_
 have hs3:St w0 (DK d D nk g::L) w:=Bd.close hg2 hs1
 exact⟨rfl,hs3⟩
theorem gT {w0 w:World}{L:List aI}{d:Nat}{D:Nat->aC}{nk:Nat}{g:et}(at_:Nat) (ha:at_<32768) (hs:St w0 (DK d D nk g::L) w):Calls Tryz.prog 38 #[zP d 0,.int .i64 (at_:Nat)] w (aZ λrv w'=>rv=.tuple #[.agg (aC.cells (D at_)),.int .i64 0]/\St w0 (DK d D nk g::L) w'):=by
 obtain⟨hg2,hs10⟩:=Bd.open hs
 have hs1:St w0 (ah d #[.map (some g.sr),.map (some g.nw),.slice g.la g.lo.length g.lc,.bool false,.int .i64 (-1)] 60::bC mI pz g.sr g.m1::bC mI pz g.nw g.m2::Sl g.la g.lc 242 129 gA.cells g.lo::L) w:=hs10
 refine enter (args:=[zP d 0,.int .i64 (at_:Nat)]) Tryz.func38 rfl Tryz.ntmps38 (Nat.le_of_ble_eq_true zk) ?_
 refine Zn [(0,zP d 0),(1,.int .i64 (at_:Nat))] ?_
 refine Zs ?_
 refine bU (.ef 0 (.rd 1 .done)) ?_
 refine ar.alloc rfl rfl zk (z:=.agg (aC.cells fX)) zk hs1 (cs:=aC.cells fX) zk ?_
 intro b3 w4 hs5
 refine⟨cK,?_⟩
 refine Zr 1 1 [] ?_
 refine Zd (Zt (Zs (Zs ?_)))
 refine bU (.rd 0 (.rd 1 (.ef 2 (.rd 3 .done)))) ?_
 refine Zr 0 2 [] ?_
 have hs6:=hs5.pl 1
 refine aF (f:=84) (args:=#[zP d 0,.int .i64 (at_:Nat)]) Tryz.call84 (jv (at_:Nat) zc zc hs6) ?_
 rintro v8 w9 ⟨rfl,hs7⟩
 refine⟨cK,?_⟩
 refine Zr 3 1 [] ?_
 refine Zd (Zt (Zs ?_))
 refine bU (.rd 0 (.rd 1 .done)) ?_
 refine Zr 0 2 [] ?_
 refine Zd (Zt (y3 (Zk (Zt (Zs (Zs ?_))))))
 refine bU (.rd 0 (.rd 1 (.rd 2 (.rd 3 (.rd 4 (.rd 5 (.ef 6 (.ef 7 .done)))))))) ?_
 refine Zp 0 5 [(3,.gen [.map (some g.nw)])] [(3,[.cell ⟨d,1,none⟩ (.map (some g.nw))])] (ak (aG (hs7.cell 0 rfl zk) av) cW) ?_
 refine ar.lookup rfl zk xr (r:=g.nw) (k:=(at_:Nat)) (ok:=false) zk hs7 3 rfl (z:=pz fX) zk (v:=.agg (jV.cells (⟨(cT g.m2 (at_:Nat)).getD fX,false⟩:jV))) (Ci _ _ _) ?_
 refine ar.alloc rfl rfl zk (z:=.agg (jV.cells DM)) zk hs7 (cs:=jV.cells DM) zk ?_
 intro b10 w11 hs12
 refine⟨cK,?_⟩
 refine Zv (b:=b10) (off:=0) (v:=.agg (jV.cells (⟨(cT g.m2 (at_:Nat)).getD fX,false⟩:jV))) (ti:=Tryz.t159) zk hs12 0 (cs':=jV.cells (⟨(cT g.m2 (at_:Nat)).getD fX,false⟩:jV)) ?_
 intro w13 hs14
 refine⟨cK,?_⟩
 refine Zd (Zt (Zs ?_))
 refine bU (.rd 0 (.rd 1 (.rd 2 .done))) ?_
 refine Zp 0 3 [(1,.gen [.bool false])] [(1,[.cell ⟨b10,128,none⟩ (.bool false)])] (ak (aG (hs14.cell 0 rfl zk) av) cW) ?_
 refine Zd (Zt (CE (Zs ?_)))
 refine bU (.rd 0 (.rd 1 (.ef 2 (.rd 3 .done)))) ?_
 refine Zp 0 2 [(1,.agg (aC.cells ((cT g.m2 (at_:Nat)).getD fX)))] [(1,[.prop (Array.size (aC.cells ((cT g.m2 (at_:Nat)).getD fX))=128),.cells ⟨b10,0,none⟩ (aC.cells ((cT g.m2 (at_:Nat)).getD fX))])] (ak (aB zk (dq (hs14.cells 0 0 rfl zk) av)) cW) ?_
 refine Zv (b:=b3) (off:=0) (v:=.agg (aC.cells ((cT g.m2 (at_:Nat)).getD fX))) (ti:=Tryz.t96) zk hs14 2 (cs':=aC.cells ((cT g.m2 (at_:Nat)).getD fX)) ?_
 intro w15 hs16
 refine⟨cK,?_⟩
 refine Zr 3 1 [] ?_
 refine Zd (Zt (Ze (Zy ?_)))
 refine aw.done (.inl rfl) (v:=.tuple #[.agg (aC.cells ((cT g.m2 (at_:Nat)).getD fX)),.int .i64 0]) (λa hf=>fP rfl zk zk (ti:=Tryz.t96) zk zk (vs:=aC.cells ((cT g.m2 (at_:Nat)).getD fX)) zk (hs16.cells 2 0 rfl zk) a hf) ?_
 have hs17:=(((hs16.pl 5).pl 5).pl 5).pl 4
 have hs18:St w0 (DK d D nk g::ah b10 (jV.cells (⟨(cT g.m2 (at_:Nat)).getD fX,false⟩:jV)) 159::ah b3 (aC.cells ((cT g.m2 (at_:Nat)).getD fX)) 96::L) w15:=Bd.close hg2 hs17
 have hs19:=((hs18.pl 0).pl 2).pl 2
 have hs20:=hs19.dr 2
 exact⟨(by rw [hg2.2 at_]),hs20⟩
theorem mK {w0 w:World}{L:List aI}{d:Nat}{D:Nat->aC}{nk:Nat}{g:et}(at_:Nat) (b:aC) (ha:at_<32768) (hk:nk<1000) (hs:St w0 (DK d D nk g::L) w):Calls Tryz.prog 112 #[zP d 0,.int .i64 (at_:Nat),.agg (aC.cells b)] w (aZ λrv w'=>∃ (gd2:et),rv=.int .i64 0/\St w0 (DK d (Bn D at_ b) (nk+1) gd2::L) w'):=by
 obtain⟨hg2,hs10⟩:=Bd.open hs
 have hs1:St w0 (ah d #[.map (some g.sr),.map (some g.nw),.slice g.la g.lo.length g.lc,.bool false,.int .i64 (-1)] 60::bC mI pz g.sr g.m1::bC mI pz g.nw g.m2::Sl g.la g.lc 242 129 gA.cells g.lo::L) w:=hs10
 refine enter (args:=[zP d 0,.int .i64 (at_:Nat),.agg (aC.cells b)]) Tryz.func112 rfl Tryz.ntmps112 (Nat.le_of_ble_eq_true zk) ?_
 refine Zn [(0,zP d 0),(1,.int .i64 (at_:Nat)),(2,.agg (aC.cells b))] ?_
 refine Zs ?_
 refine bU (.ef 0 (.rd 1 .done)) ?_
 refine ar.box rfl rfl zk (v:=.agg (aC.cells b)) zk hs1 (cs:=aC.cells b) zk ?_
 intro b3 w4 hs5
 refine⟨cK,?_⟩
 refine Zr 1 1 [] ?_
 refine Zd (Zt (Zs (Zs ?_)))
 refine bU (.rd 0 (.rd 1 (.ef 2 (.rd 3 .done)))) ?_
 refine Zr 0 2 [] ?_
 have hs6:=hs5.pl 1
 refine aF (f:=84) (args:=#[zP d 0,.int .i64 (at_:Nat)]) Tryz.call84 (jv (at_:Nat) zc zc hs6) ?_
 rintro v8 w9 ⟨rfl,hs7⟩
 refine⟨cK,?_⟩
 refine Zr 3 1 [] ?_
 refine Zd (Zt (Zs ?_))
 refine bU (.rd 0 (.rd 1 .done)) ?_
 refine Zr 0 2 [] ?_
 refine Zd (Zt (y3 (Zk (Zt (Zs ?_)))))
 refine aE.aV [0,1,3,7,0,0,32,127] (.rd 0 (.rd 1 (.rd 2 (.rd 3 (.rd 4 (.rd 5 (.rd 6 (.ef 7 .done)))))))) zk zk ai zk hs7 ?_
 intro w10 hs11 hw12
 refine Zp 0 7 [(3,.gen [.map (some g.nw)]),(5,.agg (aC.cells b))] [(3,[.cell ⟨d,1,none⟩ (.map (some g.nw))]),(5,[.prop (Array.size (aC.cells b)=128),.cells ⟨b3,0,none⟩ (aC.cells b)])] (ak (aG (hs11.cell 0 rfl zk) av) (ak (aB zk (dq (hs11.cells 1 0 rfl zk) av)) cW)) ?_
 refine ar.mapUpdate rfl zk xr (r:=g.nw) (k:=(at_:Nat)) (v:=b) zk hs11 3 rfl ?_
 intro w13 hs14
 refine⟨cK,?_⟩
 refine Zd (Zt (Zs ?_))
 refine aE.aV [0,0,2,6,14,0,0,96,224,510,1023,2047,4095] (.rd 0 (.rd 1 (.rd 2 (.rd 3 (.rd 4 (.rd 5 (.rd 6 (.rd 7 (.ef 8 (.ef 9 (.rd 10 (.rd 11 (.ef 12 .done))))))))))))) zk zk ai zk hs14 ?_
 intro w15 hs16 hw17
 refine Zp 0 8 [(4,.gen [.slice g.la g.lo.length g.lc]),(6,.agg (aC.cells b))] [(4,[.cell ⟨d,2,none⟩ (.slice g.la g.lo.length g.lc)]),(6,[.prop (Array.size (aC.cells b)=128),.cells ⟨b3,0,none⟩ (aC.cells b)])] (ak (aG (hs16.cell 1 rfl zk) av) (ak (aB zk (dq (hs16.cells 2 0 rfl zk) av)) cW)) ?_
 refine ar.aW rfl zk (t:=58) (e:=242) (n:=1) (ps:=[(0,.agg (gA.cells (⟨(at_:Nat),b⟩:gA)))]) zk zk (ti:=Tryz.t242) (z:=.agg (gA.cells oY)) zk zk zf zf (cs:=gA.cells (⟨(at_:Nat),b⟩:gA)) zk hs16 ?_
 intro b18 w19 hs20 hz21
 have hs22:St w0 (Sl (some ⟨b18,0,none⟩) 1 242 129 gA.cells ([((⟨(at_:Nat),b⟩:gA):gA)])::bC mI pz g.nw (dj g.m2 (at_:Nat) b)::ah d #[.map (some g.sr),.map (some g.nw),.slice g.la g.lo.length g.lc,.bool false,.int .i64 (-1)] 60::ah b3 (aC.cells b) 96::bC mI pz g.sr g.m1::Sl g.la g.lc 242 129 gA.cells g.lo::L) w19:=St.ey (l:=[((⟨(at_:Nat),b⟩:gA):gA)]) (f:=gA.cells) hs20 hz21 B0.size zh zk
 refine⟨bw (n:=[.cell ⟨d,2,none⟩ (.slice g.la g.lo.length g.lc)]) zk (aG (hs22.cell 2 rfl zk) av),?_⟩
 have hs25:=hs22.pl 5
 refine ar.append rfl zk DN B0 (ad:=g.la) (c:=g.lc) (xs:=g.lo) (ys:=[((⟨(at_:Nat),b⟩:gA):gA)]) (adx:=some ⟨b18,0,none⟩) (cx:=1) oY zk hs25 (hs25.rows 1 rfl B0.size oY) (λh=>nomatch h) (by simp only [List.length_append,List.length_cons,List.length_nil];have:=hg2.1;omega) (by simp only [List.length_append,List.length_cons,List.length_nil];have:=hg2.1;omega) ?_
 intro ad26 c27 w23 hs24
 refine⟨cK,?_⟩
 refine Zr 10 2 [] ?_
 refine Zv (b:=d) (off:=2) (v:=.slice ad26 ((g.lo++([((⟨(at_:Nat),b⟩:gA):gA)])).length) c27) (ti:=Tryz.t58) zk hs24 3 (cs':=#[.map (some g.sr),.map (some g.nw),.slice ad26 ((g.lo++([((⟨(at_:Nat),b⟩:gA):gA)])).length) c27,.bool false,.int .i64 (-1)]) ?_
 intro w28 hs29
 refine⟨cK,?_⟩
 refine Zd (Zt (Zs (Zs ?_)))
 refine bU (.rd 0 (.ef 1 .done)) ?_
 refine Zr 0 1 [] ?_
 have hs30:=hs29.pl 3
 refine aF (f:=125) (args:=#[zP d 0]) Tryz.call125 (mJ hs30) ?_
 rintro v32 w33 ⟨rfl,hs31⟩
 refine⟨cK,?_⟩
 refine Zd (Zt (y3 (Zk (Zt (Zs ?_)))))
 refine bU (.rd 0 .done) ?_
 refine Zr 0 1 [] ?_
 refine Zd (Zt (Ze ?_))
 refine bg (v:=.int .i64 0) ?_
 have hs34:=(((hs31.pl 1).pl 3).pl 5).pl 3
 have hs35:St w0 (DK d (Bn D at_ b) (nk+1) (⟨g.sr,g.nw,ad26,c27,g.m1,dj g.m2 (at_:Nat) b,g.lo++([((⟨(at_:Nat),b⟩:gA):gA)])⟩)::Sl (some ⟨b18,0,none⟩) 1 242 129 gA.cells ([((⟨(at_:Nat),b⟩:gA):gA)])::ah b3 (aC.cells b) 96::L) w33:=Bd.close (et.CZ hg2 at_ b) hs34
 have hs36:=((hs35.pl 0).pl 2).pl 2
 have hs37:=hs36.dr 2
 exact⟨⟨g.sr,g.nw,ad26,c27,g.m1,dj g.m2 (at_:Nat) b,g.lo++([((⟨(at_:Nat),b⟩:gA):gA)])⟩,rfl,hs37⟩
theorem kv {w0 w:World}{L:List aI}{d:Nat}{D:Nat->aC}{nk:Nat}{g:et}(hk:nk<1001) (hs:St w0 (DK d D nk g::L) w):Calls Tryz.prog 87 #[zP d 0] w (aZ λrv w'=>∃ (gd2:et),rv=.int .i64 0/\St w0 (DK d D 0 gd2::L) w'):=by
 obtain⟨sr,nw,la,lc,m1,m2,lo⟩:=g
 obtain⟨hg2,hs10⟩:=Bd.open hs
 have hs1:St w0 (ah d #[.map (some sr),.map (some nw),.slice la lo.length lc,.bool false,.int .i64 (-1)] 60::bC mI pz sr m1::bC mI pz nw m2::Sl la lc 242 129 gA.cells lo::L) w:=hs10
 have hl0:lo.length=nk:=hg2.1
 refine bp Tryz.func87 Tryz.ntmps87 ?_
 refine En (Ls (La (Lt (Ls (Ls (Lg [1] (Lu (Dz ?_))))))))
 refine aF Tryz.call84 (jv 0 zc zc hs1) ?_
 rintro v4 w5 ⟨rfl,hs3⟩
 refine Lo (aL (Lt (Ls (La (Lt (LF (Lk (Lt (Ls (Ls (Lg [1] (Lu (Dz ?_)))))))))))))
 refine aF Tryz.call125 (mJ hs3) ?_
 rintro v7 w8 ⟨rfl,hs6⟩
 refine Lo (Ld (Lt (LF (Lk (Lt (Ls (Ls (Dz ?_))))))))
 refine bj (Hl 3 0 2 hs6 Hz) ?_
 refine Zt (Zb (?_))
 refine aE.loop (T:=Nat×(List (Int×aC))×(Option Addr)) (λgg=>[(0,zP d 0),(2,.int .i64 0),(16,.slice gg.2.2 lo.length lc),(17,.int .i64 (lo.length:Nat)),(18,.int .i64 (gg.1:Nat))]) (λgg w=>True/\St w0 (ah d #[.map (some sr),.map (some nw),.slice gg.2.2 lo.length lc,.bool false,.int .i64 (-1)] 60::bC mI pz sr gg.2.1::bC mI pz nw m2::Sl gg.2.2 lc 242 129 gA.cells lo::L) w) (λgg=>lo.length-gg.1) (0,m1,la) [0,2,16,17,18] zk ⟨trivial,hs6⟩ ?_
 rintro⟨i,qm,lq⟩ w9 ⟨hp12,hs10⟩
 have hp13:True:=hp12
 have hs11:St w0 (ah d #[.map (some sr),.map (some nw),.slice lq lo.length lc,.bool false,.int .i64 (-1)] 60::bC mI pz sr qm::bC mI pz nw m2::Sl lq lc 242 129 gA.cells lo::L) w9:=hs10
 refine Zn [(0,zP d 0),(2,.int .i64 0),(16,.slice lq lo.length lc),(17,.int .i64 (lo.length:Nat)),(18,.int .i64 (i:Nat))] ?_
 refine En (Ls (La (Lt (Ls (Dz ?_)))))
 refine Zi (((i:Nat):Int)<(lo.length:Nat)) (λh14'=>?_) (λh14'=>?_)
 ·obtain⟨ab15,rfl⟩:=Sl.isSome (hs11.at_ 3 rfl) za
  refine Zk (Zt (Zs (Zb (Zs (?_)))))
  refine bL [2,3] (Hx 0 ((i:Nat):Int) ((lo.length:Nat):Int) ab15 0 129 (Hg 1 (.agg (gA.cells (lo.getD i oY))) [.prop (Array.size (gA.cells (lo.getD i oY))=129),.cells ⟨ab15,0+(i*129),none⟩ (gA.cells (lo.getD i oY))] (aB zk (dq (ag.lO (hs11.rows 3 rfl B0.size oY) zd (Nat.le_of_ble_eq_true zk) zk) av)) Hz)) ?_
  refine ar.alloc rfl rfl zk (z:=.agg (gA.cells oY)) zk hs11 (cs:=gA.cells oY) zk ?_
  intro b17 w18 hs19
  refine Lo (Dz ?_)
  refine Zv (b:=b17) (off:=0) (v:=.agg (gA.cells (lo.getD i oY))) (ti:=Tryz.t242) zk hs19 0 (cs':=gA.cells (lo.getD i oY)) ?_
  intro w20 hs21
  refine Lo (Ld (Lt (Dz ?_)))
  refine aE.aV [0,1,3,7,0,16,0,64,192,448,0,1024,4032,8191] (.rd 0 (.rd 1 (.rd 2 (.rd 3 (.rd 4 (.rd 5 (.rd 6 (.rd 7 (.rd 8 (.rd 9 (.rd 10 (.rd 11 (.rd 12 (.ef 13 .done)))))))))))))) zk zk ai zk hs21 ?_
  intro w22 hs23 hw24
  refine Zp 0 12 [(3,.gen [.map (some sr)]),(5,.gen [.int .i64 ((lo.getD i oY).at_)]),(9,.gen [.map (some nw)]),(11,.gen [.int .i64 ((lo.getD i oY).at_)])] [(3,[.cell ⟨d,0,none⟩ (.map (some sr))]),(5,[.cell ⟨b17,0,none⟩ (.int .i64 ((lo.getD i oY).at_))]),(9,[.cell ⟨d,1,none⟩ (.map (some nw))]),(11,[.cell ⟨b17,0,none⟩ (.int .i64 ((lo.getD i oY).at_))])] (ak (aG (hs23.cell 1 rfl zk) av) (ak (aG (hs23.cell 0 rfl zk) av) (ak (aG (hs23.cell 1 rfl zk) av) (ak (aG (hs23.cell 0 rfl zk) av) cW)))) ?_
  refine ar.lookup rfl zk xr (r:=nw) (k:=(lo.getD i oY).at_) (ok:=false) zk hs23 3 rfl (z:=pz fX) zk (v:=.agg (jV.cells (⟨(cT m2 ((lo.getD i oY).at_)).getD fX,false⟩:jV))) (Ci _ _ _) ?_
  refine ar.mapUpdate rfl zk xr (r:=sr) (k:=(lo.getD i oY).at_) (v:=(cT m2 ((lo.getD i oY).at_)).getD fX) zk hs23 2 rfl ?_
  intro w25 hs26
  refine Lo (Ld (Lm (Lt (Dz ?_))))
  refine bj (cH 0 ((i:Nat)+1) Hz) ?_
  have hs27:=((((hs26.pl 4).pl 4).pl 2).pl 4).pl 4
  have hs28:=hs27.dr 1
  exact aw.back (i+1,dj qm ((lo.getD i oY).at_) ((cT m2 ((lo.getD i oY).at_)).getD fX),some ⟨ab15,0,none⟩) [0,2,16,17,18] zk (by show lo.length-(i+1)<lo.length-i;omega) ⟨trivial,hs28⟩
 ·refine En (Lx (gv (gw (Lh (Lt (Ls (Lg [3] (Lu (Dz ?_)))))))))
  refine Zv (b:=d) (off:=2) (v:=.slice none 0 0) (ti:=Tryz.t58) zk hs11 0 (cs':=#[.map (some sr),.map (some nw),.slice none 0 0,.bool false,.int .i64 (-1)]) ?_
  intro w29 hs30
  refine Lo (Ld (Lt (Ls (La (Lt (Le (Dz ?_)))))))
  refine bg (v:=.int .i64 0) ?_
  have hs31:=St.bW hs30 242 129 gA.cells
  have hs32:=(((hs31.pl 0).pl 3).pl 3).pl 3
  have hs33:St w0 (DK d D 0 (⟨sr,nw,none,0,qm,m2,[]⟩)::Sl lq lc 242 129 gA.cells lo::L) w29:=Bd.close ⟨rfl,hg2.2⟩ hs32
  have hs34:=(hs33.pl 0).pl 1
  have hs35:=hs34.dr 1
  exact⟨⟨sr,nw,none,0,qm,m2,[]⟩,rfl,hs35⟩
theorem mf {w0 w:World}{L:List aI}(hs:St w0 L w):Calls Tryz.prog 5 #[] w (aZ λrv w'=>∃ (dd:Nat) (gd2:et),rv=zP dd 0/\St w0 (DK dd (λ_=>fX) 0 gd2::L) w'):=by
 refine bp Tryz.func5 Tryz.ntmps5 ?_
 refine En (Ls (La (Lt (Ls (Lg [0,1,3] (Dz ?_))))))
 refine ar.makeMap (α:=Int) (β:=aC) rfl rfl zk mI pz hs ?_
 intro r1 w2 hs3
 refine Lo (Dz ?_)
 refine ar.makeMap (α:=Int) (β:=aC) rfl rfl zk mI pz hs3 ?_
 intro r4 w5 hs6
 refine Lo (Lu (Dz ?_))
 refine ar.box rfl rfl zk (v:=.agg #[.map (some r1),.map (some r4),.slice none 0 0,.bool false,.int .i64 (-1)]) zk hs6 (cs:=#[.map (some r1),.map (some r4),.slice none 0 0,.bool false,.int .i64 (-1)]) zk ?_
 intro b7 w8 hs9
 refine Lo (aL (Lt (Le (Dz ?_))))
 refine bg (v:=zP b7 0) ?_
 have hs10:=St.bW hs9 242 129 gA.cells
 have hs11:=(((hs10.pl 0).pl 2).pl 3).pl 3
 have hs12:St w0 (DK b7 (λ_=>fX) 0 (⟨r1,r4,none,0,[],[],[]⟩)::L) w8:=Bd.close ⟨rfl,λ_=>rfl⟩ hs11
 exact⟨b7,⟨r1,r4,none,0,[],[],[]⟩,rfl,hs12⟩
end Go.Proofs.YtdaohdehpmgfdaaGreatDoor
namespace Go.Proofs.YtdaohdehpmgfdaaGreatDoor
open Go.RowKit Go.Sx
set_option linter.unusedVariables false
set_option linter.unusedSimpArgs false
set_option maxRecDepth 100000
section
variable {P : Program} {R0 : Exit -> Act -> World -> Prop} {N : Fr} {K : List dS} {S : Env} {w w0 : World} {l : List Oper} {M : List Nat} {A : cE} {rest : PT} {L : List aI}
theorem qB {α:Type}(f:α->Array Value) (z:α):∀ n,eY n (f z).toList=(List.replicate n z).flatMap λx=>(f x).toList
 | 0=>rfl
 | n+1=>by rw [eY,qB f z n,List.replicate_succ,List.flatMap_cons]
theorem ar.oH {α:Type}{i:Nat}{o:Oper}(ho:l[i]?=some o) (hw:cn l.toArray S o=some true){t t' e:TypeId}{k k':IntKind}(hu:P.underlying t=some (.slice e)) (hu':P.underlying t'=some (.int k')){ie:TypeInfo}(hi:P.info? e=some ie){z:Value}(hz:ie.zero=some z)
 {f:α->Array Value}{size:Nat}(hf:dE f size) (z0:α) (hzc:z.cells=f z0) (hsz:ie.size=size) (hpos:0<size){ad:Option Addr}{c n:Nat}{xs:List α}
 (hb:kP S o=some (.append,[t,t'],[.slice ad xs.length c,.int k (n:Nat)])) (hs:St w0 (Sl ad c e size f xs::L) w) (hbig:(xs.length+n)*(ie.bytes+1)<=1000000000)
 (h:∀ ad' c' w',St w0 (Sl ad' c' e size f (xs++List.replicate n z0)::L) w'->ba w' (opens M A i)/\ar P l M R0 K N A rest (S.cP o.dst (.slice ad' (xs++List.replicate n z0).length c')) w'):ar P l M R0 K N A (.ef i rest) S w:=by
 subst hsz
 have hzl:z.cells.size=ie.size:=by rw [hzc,hf.size]
 have hz3:z.cells.toList.length=ie.size:=by rw [Array.length_toList,hzl]
 have hus:eY n z.cells.toList=(List.replicate n z0).flatMap λx=>(f x).toList:=by rw [hzc];exact qB f z0 n
 have hfl:=br hf.size (List.replicate n z0)
 rw [List.length_replicate] at hfl
 have hflx:=br hf.size xs
 have hl:(xs++List.replicate n z0).length=xs.length+n:=by rw [List.length_append,List.length_replicate]
 have hfa:((xs++List.replicate n z0).flatMap λx=>(f x).toList)=(xs.flatMap λx=>(f x).toList)++((List.replicate n z0).flatMap λx=>(f x).toList):=List.flatMap_append
 have h1:∀ u∈((List.replicate n z0).flatMap λx=>(f x).toList),u.oneCell'=true:=by
  intro u hu
  obtain⟨y,_,hy⟩:=List.mem_flatMap.1 hu
  exact hf.Bt y u hy
 have happ:=nF (P:=P) (w:=w) (ts:=#[t,t']) (t:=t) (t':=t') (e:=e) (ty:=o.type) (base:=ad) (sLen:=xs.length) (sCap:=c) (x:=.int k (n:Int)) (n:=n) (us:=eY n z.cells.toList) rfl rfl hu hu' hi hz hpos hzl (by rw [hus,hfl]) hbig (.inl ⟨rfl,⟨k,rfl⟩,rfl⟩)
 have hb1:xs.length+n<=1000000000:=Nat.le_trans (Nat.le_mul_of_pos_right _ za) hbig
 have h0:w.ownsRow 0 e ie.size (.slice ad xs.length c) xs.length (xs.flatMap λx=>(f x).toList):=hs.holds _ (List.mem_cons_self ..)
 have fin:∀ ad' c' w',(Builtin.append_ #[t,t'] o.type #[.slice ad xs.length c,.int k (n:Int)]).run P w=.ok (.slice ad' (xs.length+n) c') w'->St w0 (Sl ad' c' e ie.size f (xs++List.replicate n z0)::L) w'->ar P l M R0 K N A (.ef i rest) S w:=by
  intro ad' c' w' hr hs'
  obtain⟨k1,k2⟩:=h ad' c' w' hs'
  refine ar.run ho hw _ w' (λa hfit=>.inl ?_) k1 k2
  obtain⟨cs,hrun⟩:=ir (P:=P) hfit hb w
  rw [hrun]
  simp only [builtin,Sem.run_bind]
  rw [hr,hl]
  rfl
 have fresh:∀ cap,xs.length+n<=cap->cap<=9223372036854775807->St w0 (Sl (some ⟨w.heap.size,0,none⟩) cap e ie.size f (xs++List.replicate n z0)::L)
  { w with drawn:=w.drawn+1,heap:=w.heap.push (.cells ((xs.flatMap λx=>(f x).toList)++eY n z.cells.toList++eY (cap-(xs.length+n)) z.cells.toList).toArray e) }:=by
  intro cap hge hcm
  refine St.step hs rfl rfl rfl zG (λb hb _=>?_) ?_ (λb hb=>⟨.inr ?_,?_⟩)
  ·simp only [Array.getElem?_push];rw [if_neg za]
  ·show World.ownsRow _ 0 e ie.size (.slice _ (xs++List.replicate n z0).length _) (xs++List.replicate n z0).length ((xs++List.replicate n z0).flatMap λx=>(f x).toList)
   rw [hl,hfa,hus]
   refine⟨by rw [List.length_append,hflx,hfl,Nat.add_mul],.inr ⟨w.heap.size,cap,((xs.flatMap λx=>(f x).toList)++((List.replicate n z0).flatMap λx=>(f x).toList)++eY (cap-(xs.length+n)) z.cells.toList).toArray,rfl,Nat.zero_le _,by simp,hge,by simp only [maxLen];omega,?_,?_⟩⟩
   ·rw [List.size_toArray,List.length_append,List.length_append,fu,hflx,hfl,hz3,<- Nat.add_mul,<- Nat.add_mul]
    congr 1
    omega
   ·have h9:(xs.length+n)*ie.size=((xs.flatMap λx=>(f x).toList)++((List.replicate n z0).flatMap λx=>(f x).toList)).length:=by rw [List.length_append,hflx,hfl,Nat.add_mul]
    rw [h9]
    exact List.take_left
  ·have h1:(some w.heap.size:Option Nat)=some b:=hb
   have h2:=Option.some.inj h1
   omega
  ·have h1:(some w.heap.size:Option Nat)=some b:=hb
   have h2:=Option.some.inj h1
   subst h2
   simp
 rcases Nat.lt_or_ge c (xs.length+n) with hlt|hge
 ·obtain⟨cap,hc1,hc2,hr⟩:=happ.2 hlt (xs.flatMap λx=>(f x).toList) hflx (λw1 hw1=>by
   rcases h0.2 with⟨h3,h4⟩|⟨g,cap,cur,h3,hbg,hg,hnc,hcm,hcs,htake⟩
   ·simp only [Value.slice.injEq] at h3
    obtain⟨rfl,_,rfl⟩:=h3
    obtain rfl:xs=[]:=List.eq_nil_of_length_eq_zero h4
    simp [Builtin.firstCells]
   ·simp only [Value.slice.injEq] at h3
    obtain⟨rfl,_,rfl⟩:=h3
    simp only [Builtin.firstCells,loadCells]
    refine fF _ _ (by simp [hflx]) λj hj=>?_
    have hj':j<xs.length*ie.size:=by simpa [hflx] using hj
    have h5:=h0.cells (g:=g) rfl j _ (List.getElem?_eq_getElem (by rw [hflx];exact hj'))
    rw [eE,Nat.zero_add] at h5 ⊢
    rw [show w1.cell? ⟨g,j,none⟩=w.cell? ⟨g,j,none⟩ from by simp only [World.cell?,hw1],h5]
    simp)
  exact fin _ _ _ hr (fresh cap hc1 hc2)
 ·have hr:=happ.1 hge
  rcases h0.2 with⟨h3,h4⟩|⟨g,cap,cur,h3,hbg,hg,hnc,hcm,hcs,htake⟩
  ·simp only [Value.slice.injEq] at h3
   obtain⟨rfl,_,rfl⟩:=h3
   obtain rfl:xs=[]:=List.eq_nil_of_length_eq_zero h4
   obtain rfl:n=0:=by simp only [List.length_nil] at hge;omega
   refine fin none 0 w ?_ (by rw [List.replicate_zero,List.append_nil];exact hs)
   simpa [Sem.run] using hr
  ·simp only [Value.slice.injEq] at h3
   obtain⟨rfl,_,rfl⟩:=h3
   have hfit:xs.length*ie.size+0+(eY n z.cells.toList).length<=cur.size:=by rw [hus,hfl,hcs,Nat.add_zero,<- Nat.add_mul];exact Nat.mul_le_mul_right _ hge
   have hst:=run_storeCells_at P g (xs.length*ie.size) e (eY n z.cells.toList) 0 cur w hg hfit (by rw [hus];exact h1)
   dsimp only at hr
   rw [show((⟨g,0,none⟩:Addr).add (xs.length*ie.size))=⟨g,xs.length*ie.size,none⟩ from by rw [eE,Nat.zero_add]] at hr
   simp only [hst,Result.andThen_ok] at hr
   refine fin _ _ _ hr ?_
   have hlen:((xs.flatMap λx=>(f x).toList)++((List.replicate n z0).flatMap λx=>(f x).toList)).length=(xs.length+n)*ie.size:=by rw [List.length_append,hflx,hfl,Nat.add_mul]
   have hlt:g<w.heap.size:=(Array.getElem?_eq_some_iff.1 hg).1
   refine St.grown hs (row:=some g) (w':=w.setRow g (cur.toList.take (xs.length*ie.size+0)++eY n z.cells.toList++cur.toList.drop (xs.length*ie.size+0+(eY n z.cells.toList).length)).toArray) ⟨rfl,rfl,rfl,by simp,λq _ hk=>setRow_other w g q _ (λe=>hk (by simp [e]))⟩ (λb hb=>hb) ?_ (λb hb=>⟨.inl hb,?_⟩)
   ·show World.ownsRow _ 0 e ie.size (.slice _ (xs++List.replicate n z0).length _) (xs++List.replicate n z0).length ((xs++List.replicate n z0).flatMap λx=>(f x).toList)
    rw [hl,hfa,hus]
    refine⟨hlen,.inr ⟨g,c,_,rfl,Nat.zero_le _,setRow_heap w g cur _ e _ hg,hge,hcm,?_,?_⟩⟩
    ·rw [hus,Nat.add_zero] at hfit
     simp only [List.size_toArray,List.length_append,List.length_take,List.length_drop,Array.length_toList,Nat.add_zero]
     omega
    ·rw [Nat.add_zero,htake,<- hlen]
     exact List.take_left
   ·have h1:(some g:Option Nat)=some b:=hb
    have h2:=Option.some.inj h1
    subst h2
    simpa using hlt
theorem ar.B2 {α:Type}{i:Nat}{o:Oper}{t e:TypeId}{size bytes:Nat}{f:α->Array Value}{ad:Option Addr}{c n:Nat}{xs ys:List α}(hn:(xs++ys).length=n) (ho:l[i]?=some o) (hw:cn l.toArray S o=some true) (he:ff P t e size bytes) (hf:dE f size){adx:Option Addr}{cx:Nat}(d:α)
 (hb:kP S o=some (.append,[t,t],[.slice ad xs.length c,.slice adx ys.length cx])) (hs:St w0 (Sl ad c e size f xs::L) w) (hx:ag w adx ys.length size (λk=>f (ys.getD k d))) (hxn:adx=none->cx=0) (hlen:(xs.length+ys.length)*bytes<=140737488355328) (hlen2:xs.length+ys.length<=9223372036854775807)
 (h:∀ ad' c' w',St w0 (Sl ad' c' e size f (xs++ys)::L) w'->ba w' (opens M A i)/\ar P l M R0 K N A rest (S.cP o.dst (.slice ad' n c')) w'):ar P l M R0 K N A (.ef i rest) S w:=by
 subst hn
 exact ar.append ho hw he hf d hb hs hx hxn hlen hlen2 h
theorem Yl.E1 {n b:Nat}{φ:Value->World->Prop}{r:Loop}{p q:Tmp}{v u:Value}(hs:St w0 (mU b (.loop r)::L) w) (hps:r.params=#[p,q]) (hf:Fits ⟨n,[],some b⟩ S ⟨r.tmps,[]⟩) (hp:p<n) (hq:q<n)
 (h:aE P (RA P b r.body φ) ⟨n,[],some b⟩ [] r.assign ((S.set p v).set q u) w):Yl P b #[v,u] w φ:=by
 have hr:w.heap[b]?=some (.loop r):=hs.holds _ (List.mem_cons_self ..)
 refine⟨_,_,_,_,run_yield hr (by rw [hps];rfl),roundIn_of_wpIn (F:=dn none) trivial ?_⟩
 refine h _ ?_
 have h1:=(hf.set hp v).set hq u
 rw [hps]
 simpa [Act.put] using h1
end
theorem AU {w:World}{b off:Nat}{l:List Int}(h:ag w (some ⟨b,off,none⟩) l.length 1 (λk=>af (l.getD k 0))) (hl:l.length=128):∀ i,i<(aC.cells (fD l)).size->w.cell? ((Addr.mk b off none).add i)=(aC.cells (fD l))[i]?:=by
 intro i hi
 have hi2:i<128:=hi
 have h2:=h.at (k:=i) (j:=0) za za
 rw [Nat.mul_one,Nat.add_zero] at h2
 rw [eE,h2,aC.at_ _ _ hi2,hJ hl]
 rfl
theorem xu {w0 w:World}{L:List aI}(hs:St w0 L w) (j:Nat){b:Nat}{T:TypeId}{s:aC}{l m:List Int}(hj:L[j]?=some (ah b (aC.cells s) T)) (hl:s.toList=l++m):ag w (some ⟨b,0,none⟩) l.length 1 (λk=>af (l.getD k 0)):=λhn=>by
 have hm:=aC.jU hs j 0 s hj zk
 have hlen:s.toList.length=l.length+m.length:=by rw [hl,List.length_append]
 refine⟨b,0,rfl,λk hk i hi=>?_⟩
 have h2:=ag.at hm (k:=k) (j:=i) za hi
 rw [h2,hl]
 simp only [List.getD_eq_getElem?_getD,List.getElem?_append_left hk]
theorem xv {w0 w:World}{L:List aI}(hs:St w0 L w) (j:Nat){b n:Nat}{T:TypeId}{s:aC}{l m:List Int}(hj:L[j]?=some (ah b (aC.cells s) T)) (hl:s.toList=l++m) (hn:l.length=n):ag w (some ⟨b,0+n*1,none⟩) m.length 1 (λk=>af (m.getD k 0)):=λ_=>by
 subst hn
 have hm:=aC.jU hs j 0 s hj zk
 have hlen:s.toList.length=l.length+m.length:=by rw [hl,List.length_append]
 refine⟨b,0+l.length*1,rfl,λk hk i hi=>?_⟩
 have h2:=ag.at hm (k:=l.length+k) (j:=i) za hi
 rw [show 0+l.length*1+k*1+i=0+(l.length+k)*1+i by omega,h2,hl]
 simp only [List.getD_eq_getElem?_getD,List.getElem?_append_right (Nat.le_add_right _ _),Nat.add_sub_cancel_left]
end Go.Proofs.YtdaohdehpmgfdaaGreatDoor
namespace Go.Proofs.YtdaohdehpmgfdaaGreatDoor
open Go.RowKit Go.Sx
set_option linter.unusedVariables false
set_option linter.unusedSimpArgs false
set_option linter.unnecessarySimpa false
set_option maxRecDepth 100000
def bP (b:List Int):List Int:=((([]:List Int)++hf (b.length:Nat))++b)++List.replicate (1200-((([]:List Int)++hf (b.length:Nat))++b).length) (0:Int)
theorem dF {b:List Int}(h:b.length<=1100):(bP b).length=1200:=by
 simp only [bP,List.length_append,List.length_replicate,aY,List.length_nil]
 omega
def mZ (c:Int) (b:List Int) (i:Nat):List Int:=(([]:List Int)++wd c)++((bP b).drop (i*120)).take ((i+1)*120-i*120)
theorem eN {c:Int}{b:List Int}{i:Nat}(h:b.length<=1100) (hi:i<10):(mZ c b i).length=128:=by
 simp only [mZ,List.length_append,List.length_nil,aP,List.length_take,List.length_drop,dF h]
 omega
theorem zu {p:Prop}(h:p:=by simp only [List.length_append,List.length_nil,List.length_cons,List.length_take,List.length_drop,aY,aP];omega):p:=h
theorem rJ {w0 w:World}{L:List aI}{ad:Option Addr}{cb:Nat}(c:Int) (b:List Int) (hbl:b.length<=1100) (hnn:ad=none->cb=0) (hr:∀ w,St w0 L w->ag w ad b.length 1 (λk=>af (b.getD k 0))) (hs:St w0 L w):Calls Tryz.prog 124 #[.int .u64 c,.slice ad b.length cb] w (aZ λrv w'=>∃ (q1:Nat) (q2:Nat) (ao:Option Addr) (co:Nat),rv=.func (.func 166) #[] #[zP q1 0,zP q2 0]/\St w0 (ah q1 #[.int .u64 c] 31::ah q2 #[.slice ao ((bP b).length) co] 85::Sl ao co 5 1 af (bP b)::L) w'):=by
 refine bp Tryz.func124 Tryz.ntmps124 ?_
 refine En (Ls (Lg [0] (Dz ?_)))
 refine ar.box rfl rfl zk (v:=.int .u64 c) zk hs (cs:=#[.int .u64 c]) zk ?_
 intro b1 w2 hs3
 refine Lo (aL (Lt (Ls (Dz ?_))))
 refine bL [3,5,6,7] (Hg 2 (.cI (.int .u16 (b.length:Nat)) (.gen [])) [.prop (Value.int .u16 (IntKind.u16.wrap (b.length:Nat))=Value.int .u16 (b.length:Nat))] (aB (mq za za) av) Hz) ?_
 have hs4:=St.bW hs3 5 1 af
 refine aF (f:=110) (args:=#[.slice none (([]:List Int).length) 0,.int .u16 (b.length:Nat)]) Tryz.call110 (iu ([]:List Int) (b.length:Nat) zG zc hs4) ?_
 rintro v8 w9 ⟨ao5,co6,rfl,hs7⟩
 refine Lo (Lu (Dz ?_))
 refine ar.append rfl zk aJ aj (ad:=ao5) (c:=co6) (xs:=([]:List Int)++hf (b.length:Nat)) (ys:=b) (adx:=ad) (cx:=cb) (0:Int) zk hs7 (hr _ (hs7.drop 2)) hnn zu zu ?_
 intro ad12 c13 w10 hs11
 refine Lo (Dz ?_)
 refine ar.alloc rfl rfl zk (z:=.slice none 0 0) zk hs11 (cs:=#[.slice none 0 0]) zk ?_
 intro b14 w15 hs16
 refine Lo (Dz ?_)
 refine Zv (b:=b14) (off:=0) (v:=.slice ad12 (((([]:List Int)++hf (b.length:Nat))++b).length) c13) (ti:=Tryz.t85) zk hs16 0 (cs':=#[.slice ad12 (((([]:List Int)++hf (b.length:Nat))++b).length) c13]) ?_
 intro w17 hs18
 refine Lo (Ld (Lt (Ls (Dz ?_))))
 have hal:((([]:List Int)++hf (b.length:Nat))++b).length=2+b.length:=by simp only [List.length_append,aY,List.length_nil,Nat.zero_add]
 refine bL [4,5] (Hl 0 0 0 hs18 (Hl 1 0 0 hs18 (Hg 3 (.cI (.int .i64 (1200-(((([]:List Int)++hf (b.length:Nat))++b).length):Nat)) (.gen [])) [.prop (Value.int .i64 (IntKind.i64.wrap (1200-(((([]:List Int)++hf (b.length:Nat))++b).length:Nat)))=Value.int .i64 (1200-(((([]:List Int)++hf (b.length:Nat))++b).length):Nat))] (aB (de za za za) av) Hz))) ?_
 have hs21:=hs18.pl 1
 refine ar.oH rfl zk (t:=85) (t':=3) (e:=5) (k:=.i64) (k':=.i64) zk zk (ie:=Tryz.t5) zk (z:=.int .u8 0) zk aj (0:Int) zk zk zf (ad:=ad12) (c:=c13) (n:=(1200-(((([]:List Int)++hf (b.length:Nat))++b).length))) (xs:=(([]:List Int)++hf (b.length:Nat))++b) zk hs21 (by show(_+_)*2<=_;omega) ?_
 intro ad22 c23 w19 hs20
 refine Lo (Dz ?_)
 refine Zv (b:=b14) (off:=0) (v:=.slice ad22 ((((([]:List Int)++hf (b.length:Nat))++b)++List.replicate (1200-(((([]:List Int)++hf (b.length:Nat))++b).length)) (0:Int)).length) c23) (ti:=Tryz.t85) zk hs20 1 (cs':=#[.slice ad22 ((((([]:List Int)++hf (b.length:Nat))++b)++List.replicate (1200-(((([]:List Int)++hf (b.length:Nat))++b).length)) (0:Int)).length) c23]) ?_
 intro w24 hs25
 refine Lo (Ld (Lt (Ls (La (Lt (Le (Dz ?_)))))))
 refine bg (v:=.func (.func 166) #[] #[zP b1 0,zP b14 0]) ?_
 have hs26:=((hs25.pl 0).pl 1).pl 2
 exact⟨b1,b14,ad22,c23,rfl,hs26⟩
theorem pA {w0 w:World}{L:List aI}{q1:Nat}{q2:Nat}{ao:Option Addr}{co:Nat}(G:Type) (yb:Nat) (ix:G->Nat) (GX:G->aI) (c:Int) (b:List Int) (t:G) (hc:0<=c/\c<18446744073709551616) (hbl:b.length<=1100) (ht:ix t=0) (hy:∀ (t:G) (L':List aI) (w:World),ix t<10->St w0 (GX t::L') w->Yl Tryz.prog yb #[.int .i64 (ix t:Nat),.agg (aC.cells (fD (mZ c b (ix t))))] w (λv w'=>∃ u,v=.bool true/\ix u=ix t+1/\St w0 (GX u::L') w')) (hs:St w0 (ah q1 #[.int .u64 c] 31::ah q2 #[.slice ao ((bP b).length) co] 85::Sl ao co 5 1 af (bP b)::GX t::L) w):Calls Tryz.prog 166 #[.func (.yield yb) #[] #[],zP q1 0,zP q2 0] w (aZ λrv w'=>∃ (t2:G),rv=.tuple #[]/\ix t2=10/\St w0 (ah q1 #[.int .u64 c] 31::ah q2 #[.slice ao ((bP b).length) co] 85::Sl ao co 5 1 af (bP b)::GX t2::L) w'):=by
 refine bp Tryz.func166 Tryz.ntmps166 ?_
 refine En (Ls (La (Lt (Lb (Dz ?_)))))
 refine aE.loop (T:=Nat×G) (λgg=>[(0,.func (.yield yb) #[] #[]),(1,zP q1 0),(2,zP q2 0),(6,.int .i64 (gg.1:Nat))]) (λgg w=>(gg.1<=10/\ix gg.2=gg.1)/\St w0 (ah q1 #[.int .u64 c] 31::ah q2 #[.slice ao ((bP b).length) co] 85::Sl ao co 5 1 af (bP b)::GX gg.2::L) w) (λgg=>10-gg.1) (0,t) [0,1,2,6] zk ⟨⟨za,ht⟩,hs⟩ ?_
 rintro⟨i,t1⟩ w1 ⟨hp0,hs2⟩
 have hp:i<=10/\ix t1=i:=hp0
 have hs3:St w0 (ah q1 #[.int .u64 c] 31::ah q2 #[.slice ao ((bP b).length) co] 85::Sl ao co 5 1 af (bP b)::GX t1::L) w1:=hs2
 refine Zn [(0,.func (.yield yb) #[] #[]),(1,zP q1 0),(2,zP q2 0),(6,.int .i64 (i:Nat))] ?_
 refine En (Ls (La (Lt (Ls (Dz ?_)))))
 refine Zi (((i:Nat):Int)<10) (λh4'=>?_) (λh4'=>?_)
 ·have hal:(bP b).length=1200:=dF hbl
  refine En (Lk (Lt (Ls (Lb (Ls (La (Lt (Ls (Dz ?_)))))))))
  refine aE.aV [0,1,0,0,8,0,32,96,252,511,1023] (.rd 0 (.rd 2 (.rd 3 (.rd 4 (.rd 5 (.rd 6 (.rd 7 (.rd 8 (.ef 1 (.ef 9 (.rd 10 .done))))))))))) zk zk ai zk hs3 ?_
  intro w5 hs6 hw7
  have hcap8:=Sl.cap (hs6.at_ 2 rfl)
  refine Zj (Hl 0 0 0 hs6 (Hl 2 1 0 hs6 (cH 4 ((i:Nat)*120) (cH 6 ((i:Nat)+1) (cH 7 (((i:Nat)+1)*120) (Hg 8 (.cI (.slice (dB ao co (i*120) 1) ((((bP b).drop (i*120)).take (((i+1)*120)-(i*120))).length) (co-(i*120))) (.sub (i*120) ((i+1)*120))) [.prop (((i:Nat)*120:Int)=((i*120:Nat):Int)),.prop ((((i:Nat)+1)*120:Int)=(((i+1)*120:Nat):Int)),.prop ((some (Operand.tmp 13)=none->(i*120:Nat)=0)/\(some (Operand.tmp 16)=none->((i+1)*120:Nat)=(bP b).length)/\(i*120:Nat)<=(i+1)*120/\((i+1)*120:Nat)<=co),.prop (Value.slice (if co=(i*120) then ao else (ao:Option Addr).map (λa=>a.add ((i*120)*1))) (((i+1)*120)-(i*120)) (co-(i*120))=Value.slice (dB ao co (i*120) 1) ((((bP b).drop (i*120)).take (((i+1)*120)-(i*120))).length) (co-(i*120)))] (aB za (aB za (aB ⟨(by first|(intro _;rfl)|(intro hc;cases hc)),(by first|(intro _;rfl)|(intro hc;cases hc)),za,za⟩ (aB (sB zA) av)))) Hz)))))) ?_
  have hs9:=St.bW hs6 5 1 af
  refine aF (f:=99) (args:=#[.slice none 0 0,.int .u64 c]) Tryz.call99 (bX ([]:List Int) c ze za hs9) ?_
  rintro v13 w14 ⟨ao10,co11,rfl,hs12⟩
  refine⟨bw (n:=[.prop (((i:Nat)*120:Int)=((i*120:Nat):Int)),.prop ((((i:Nat)+1)*120:Int)=(((i+1)*120:Nat):Int)),.prop ((some (Operand.tmp 13)=none->(i*120:Nat)=0)/\(some (Operand.tmp 16)=none->((i+1)*120:Nat)=(bP b).length)/\(i*120:Nat)<=(i+1)*120/\((i+1)*120:Nat)<=co),.prop (Value.slice (if co=(i*120) then ao else (ao:Option Addr).map (λa=>a.add ((i*120)*1))) (((i+1)*120)-(i*120)) (co-(i*120))=Value.slice (dB ao co (i*120) 1) ((((bP b).drop (i*120)).take (((i+1)*120)-(i*120))).length) (co-(i*120))),.prop (Value.int .i64 (IntKind.i64.wrap (((i:Nat)+1)*120))=Value.int .i64 (((i:Nat)+1)*120)),.prop (Value.int .i64 (IntKind.i64.wrap ((i:Nat)+1))=Value.int .i64 ((i:Nat)+1)),.prop (Value.int .i64 (IntKind.i64.wrap ((i:Nat)*120))=Value.int .i64 ((i:Nat)*120)),.cell ⟨q2,0,none⟩ (.slice ao ((bP b).length) co)]) zk (aB za (aB za (aB ⟨(by first|(intro _;rfl)|(intro hc;cases hc)),(by first|(intro _;rfl)|(intro hc;cases hc)),za,za⟩ (aB (sB zA) (aB (dD za za) (aB (dD za za) (aB (dD za za) (aG (hs12.cell 2 rfl zk) av)))))))),?_⟩
  refine ar.append rfl zk aJ aj (ad:=ao10) (c:=co11) (xs:=([]:List Int)++wd c) (ys:=((bP b).drop (i*120)).take (((i+1)*120)-(i*120))) (adx:=dB ao co (i*120) 1) (cx:=(co-(i*120))) (0:Int) zk hs12 (ag.pU (hs12.rows 3 rfl aj.size (0:Int)) za za) (nN (hs12.eU 3 rfl)) zu zu ?_
  intro ad17 c18 w15 hs16
  refine Lo (aL (Lt (Ls (Dz ?_))))
  have hsl:((([]:List Int)++wd c)++(((bP b).drop (i*120)).take (((i+1)*120)-(i*120)))).length=128:=eN (c:=c) hbl za
  obtain⟨ab19,rfl⟩:=Sl.isSome (hs16.at_ 0 rfl) za
  refine Zn [(5,zL ab19 0 (((([]:List Int)++wd c)++(((bP b).drop (i*120)).take (((i+1)*120)-(i*120)))).length) c18),(4,.int .i64 (i:Nat)),(0,.func (.yield yb) #[] #[]),(1,zP q1 0),(2,zP q2 0),(6,.int .i64 (i:Nat))] ?_
  refine aE.cq (S':=[(5,zL ab19 0 128 c18),(4,.int .i64 (i:Nat)),(0,.func (.yield yb) #[] #[]),(1,zP q1 0),(2,zP q2 0),(6,.int .i64 (i:Nat))]) (by rw [hsl]) ?_
  refine bL [5] (Hg 4 (.agg (aC.cells (fD ((([]:List Int)++wd c)++(((bP b).drop (i*120)).take (((i+1)*120)-(i*120))))))) [.prop (Array.size (aC.cells (fD ((([]:List Int)++wd c)++(((bP b).drop (i*120)).take (((i+1)*120)-(i*120))))))=128),.cells ⟨ab19,0,none⟩ (aC.cells (fD ((([]:List Int)++wd c)++(((bP b).drop (i*120)).take (((i+1)*120)-(i*120))))))] (aB zk (dq (AU (hs16.rows 0 rfl aj.size 0) hsl) av)) Hz) ?_
  have hs21:=hs16.pl 4
  refine ar.yield rfl rfl zk (b:=yb) (args:=#[.int .i64 (i:Nat),.agg (aC.cells (fD ((([]:List Int)++wd c)++(((bP b).drop (i*120)).take (((i+1)*120)-(i*120))))))]) zk (by have h9:=hy t1 _ _ za hs21;rw [hp.2] at h9;exact h9) ?_
  rintro v26 w25 ⟨u22,rfl,hye23,hs24⟩
  ·refine Lo (aL (Lt (LF (Lk (Lm (Lt (Dz ?_)))))))
   refine bj (cH 0 ((i:Nat)+1) Hz) ?_
   have hs27:=((((hs24.pl 0).pl 4).pl 4).pl 4).pl 4
   have hs28:=hs27.dr 1
   exact aw.back (i+1,u22) [0,1,2,6] zk (by show 10-(i+1)<10-i;omega) ⟨⟨za,hye23⟩,hs28⟩
 ·have hi10:i=10:=za
  subst hi10
  refine Zx (aw.da (aw.dc (aw.jR (?_))))
  refine aw.done (.inr rfl) (λa hf=>results0 rfl a hf) ?_
  exact⟨t1,rfl,hp.2,hs3⟩
def fo (D:Nat->aC) (s:Nat) (c:Int) (b:List Int) (i:Nat):Nat->aC:=λa=>if s<=a/\a<s+i then fD (mZ c b (a-s)) else D a
theorem DO (D:Nat->aC) (s:Nat) (c:Int) (b:List Int):fo D s c b 0=D:=by
 funext a
 exact if_neg za
theorem DP (D:Nat->aC) (s:Nat) (c:Int) (b:List Int) (i:Nat):Bn (fo D s c b i) (s+i) (fD (mZ c b i))=fo D s c b (i+1):=by
 funext a
 unfold Bn fo
 by_cases h:s+i=a
 ·subst h
  rw [if_pos rfl,if_pos za,Nat.add_sub_cancel_left]
 ·rw [if_neg h]
  by_cases h2:s<=a/\a<s+i
  ·rw [if_pos h2,if_pos za]
  ·rw [if_neg h2,if_neg za]
theorem jw {w0 w:World}{L:List aI}{d:Nat}{D:Nat->aC}{nk:Nat}{g:et}{ad:Option Addr}{cb:Nat}(at_:Nat) (wh:Nat) (c:Int) (b:List Int) (hat:at_+20<=32768) (hwh:wh<=1) (hc:0<=c/\c<18446744073709551616) (hbl:b.length<=1100) (hnn:ad=none->cb=0) (hk:nk<900) (hr:∀ w,St w0 L w->ag w ad b.length 1 (λk=>af (b.getD k 0))) (hs:St w0 (DK d D nk g::L) w):Calls Tryz.prog 86 #[.agg #[zP d 0,.int .i64 (at_:Nat)],.int .i64 (wh:Nat),.int .u64 c,.slice ad b.length cb] w (aZ λrv w'=>∃ (gd2:et),rv=.int .i64 0/\St w0 (DK d (fo D (at_+(wh*10)) c b 10) (nk+10) gd2::L) w'):=by
 refine CY (args:=[.agg #[zP d 0,.int .i64 (at_:Nat)],.int .i64 (wh:Nat),.int .u64 c,.slice ad b.length cb]) Tryz.func86 rfl Tryz.ntmps86 (Nat.le_of_ble_eq_true zk) ?_
 refine Zn [(0,.agg #[zP d 0,.int .i64 (at_:Nat)]),(1,.int .i64 (wh:Nat)),(2,.int .u64 c),(3,.slice ad b.length cb)] ?_
 refine En (Ls (Lg [0,1,2] (Dz ?_)))
 refine ar.box rfl rfl zk (v:=.agg #[zP d 0,.int .i64 (at_:Nat)]) zk hs (cs:=#[zP d 0,.int .i64 (at_:Nat)]) zk ?_
 intro b1 w2 hs3
 refine Lo (Dz ?_)
 refine ar.box rfl rfl zk (v:=.int .i64 (wh:Nat)) zk hs3 (cs:=#[.int .i64 (wh:Nat)]) zk ?_
 intro b4 w5 hs6
 refine Lo (Dz ?_)
 refine ar.alloc rfl rfl zk (z:=.int .i64 0) zk hs6 (cs:=#[.int .i64 0]) zk ?_
 intro b7 w8 hs9
 refine Lo (Ld (Lt (Ls (Ls (Lg [2] (Lu (Dz ?_)))))))
 refine aF Tryz.call124 (rJ c b zc zc (λw h=>hr _ (h.drop 4)) hs9) ?_
 rintro v15 w16 ⟨C0,C1,ao12,co13,rfl,hs14⟩
 refine Lo (Ld (Lt (Lb (Dz ?_))))
 refine aE.range (f:=166) (fst:=#[]) (cap:=#[zP C0 0,zP C1 0]) zk Tryz.call166 hs14 ?_
 intro b0 D0 r0 w17 hst hpd hps has hbd hft hs18
 have hs19:=((((((((hs18.pl 1).pl 4).pl 4).pl 4).pl 8).pl 6).pl 7).pl 8).pl 8
 have hs20:St w0 (mU b0 (.loop r0)::ah b1 #[zP d 0,.int .i64 (at_:Nat)] 161::ah b4 #[.int .i64 (wh:Nat)] 3::ah b7 #[.int .i64 0] 26::DK d (fo D (at_+(wh*10)) c b 0) (nk+0) g::ah C0 #[.int .u64 c] 31::ah C1 #[.slice ao12 ((bP b).length) co13] 85::Sl ao12 co13 5 1 af (bP b)::mU D0 (.deferred (some []))::L) w17:=by rw [DO];exact hs19
 let GX:Nat×et->aI:=λt=>tv [mU b0 (.loop r0),ah b1 #[zP d 0,.int .i64 (at_:Nat)] 161,ah b4 #[.int .i64 (wh:Nat)] 3,ah b7 #[.int .i64 0] 26,DK d (fo D (at_+(wh*10)) c b t.1) (nk+t.1) t.2]
 have hs21:St w0 (GX (0,g)::ah C0 #[.int .u64 c] 31::ah C1 #[.slice ao12 ((bP b).length) co13] 85::Sl ao12 co13 5 1 af (bP b)::mU D0 (.deferred (some []))::L) w17:=St.ki (l:=[_,_,_,_,_]) hs20
 have hs22:=(((hs21.pl 0).pl 3).pl 3).pl 3
 refine Calls.ret (P:=Tryz.prog) (f:=166) (args:=#[.func (.yield b0) #[] #[],zP C0 0,zP C1 0]) (pA (Nat×et) b0 Prod.fst GX c b (0,g) hc hbl rfl ?_ hs22) ?_
 ·intro t L' w hti hs0
  have hti2:t.1<10:=hti
  have hs23:St w0 (mU b0 (.loop r0)::ah b1 #[zP d 0,.int .i64 (at_:Nat)] 161::ah b4 #[.int .i64 (wh:Nat)] 3::ah b7 #[.int .i64 0] 26::DK d (fo D (at_+(wh*10)) c b t.1) (nk+t.1) t.2::L') w:=hs0.splits
  refine Yl.E1 hs23 hps hft zf zf ?_
  rw [has,hbd]
  refine aE.pick [16,15,8,5,4] (S':=[(16,.agg (aC.cells (fD (mZ c b t.1)))),(15,.int .i64 (t.1:Nat)),(8,zP b7 0),(5,zP b4 0),(4,zP b1 0)]) zk ?_
  refine En (Ls (La (Lt (Lg [0,1] (Dz ?_)))))
  refine ar.alloc rfl rfl zk (z:=.agg (aC.cells fX)) zk hs23 (cs:=aC.cells fX) zk ?_
  intro b24 w25 hs26
  refine Lo (Dz ?_)
  refine Zv (b:=b24) (off:=0) (v:=.agg (aC.cells (fD (mZ c b t.1)))) (ti:=Tryz.t96) zk hs26 0 (cs':=aC.cells (fD (mZ c b t.1))) ?_
  intro w27 hs28
  refine Lo (Ld (Dz ?_))
  have hs29:=hs28.pl 1
  refine aw.begin hs29 hst ?_
  intro w30 hs31
  refine Zb (Zs (?_))
  refine bL [10] (Hl 1 2 0 hs31 (Hl 3 2 1 hs31 (Hl 4 3 0 hs31 (cH 5 ((wh:Nat)*10) (cH 6 ((at_:Nat)+((wh:Nat)*10)) (cH 8 (((at_:Nat)+((wh:Nat)*10))+(t.1:Nat)) (du 9 1 0 128 (aC.cells (fD (mZ c b t.1))) hs31 Hz))))))) ?_
  have hs32:=hs31.pl 5
  refine aF Tryz.call112 (mK ((at_+(wh*10))+t.1) (fD (mZ c b t.1)) zc zc hs32) ?_
  rintro v35 w36 ⟨gd33,rfl,hs34⟩
  refine Lo (aL (Lt (Ls (La (Lt (LF (Lk (Lm (Dz ?_)))))))))
  have hs37:=hs34.pl 1
  refine aw.on hst hpd hs37 ?_
  intro w38 hs39
  have hs40:=(((((hs39.pl 1).pl 5).pl 5).pl 5).pl 4).pl 5
  have hs41:=hs40.dr 1
  have hs42:St w0 (mU b0 (.loop r0)::ah b1 #[zP d 0,.int .i64 (at_:Nat)] 161::ah b4 #[.int .i64 (wh:Nat)] 3::ah b7 #[.int .i64 0] 26::DK d (fo D (at_+(wh*10)) c b (t.1+1)) (nk+(t.1+1)) gd33::L') w38:=by rw [<- DP];exact hs41
  exact⟨(t.1+1,gd33),rfl,rfl,St.ki (l:=[_,_,_,_,_]) hs42⟩
 ·rintro v43 w44 ⟨⟨i2,gd2⟩,rfl,hix,hs45⟩
  obtain rfl:i2=10:=hix
  have hs46:St w0 (mU b0 (.loop r0)::ah b1 #[zP d 0,.int .i64 (at_:Nat)] 161::ah b4 #[.int .i64 (wh:Nat)] 3::ah b7 #[.int .i64 0] 26::DK d (fo D (at_+(wh*10)) c b 10) (nk+10) gd2::ah C0 #[.int .u64 c] 31::ah C1 #[.slice ao12 ((bP b).length) co13] 85::Sl ao12 co13 5 1 af (bP b)::mU D0 (.deferred (some []))::L) w44:=(hs45.pull 3 rfl).splits
  refine⟨r0,_,hs46,(by rw [hst];nofun),.inl ⟨hpd,?_⟩⟩
  intro w47 hs48
  refine En (Lm (Lt (Ls (Lg [0] (Dz ?_)))))
  refine Zv (b:=b7) (off:=0) (v:=.int .i64 0) (ti:=Tryz.t26) zk hs48 2 (cs':=#[.int .i64 0]) ?_
  intro w49 hs50
  refine Lo (Ld (Lt (Le (Dz ?_))))
  have hs53:=hs50.pl 7
  refine aw.leave hs53 ?_
  intro w51 hs52
  refine aw.DL (.inl rfl) (v:=.int .i64 0) (λa hf=>z7 (b:=b7) (off:=0) rfl zk zk zk (hs52.cell 2 rfl zk) a hf) ?_
  have hs54:=((((((hs52.pl 3).pl 6).pl 6).pl 6).pl 6).pl 6).pl 6
  have hs55:=hs54.dr 6
  exact⟨gd2,rfl,hs55⟩
theorem fc {w0 w:World}{L:List aI}{c:Nat}{az:Option Addr}{cz:Nat}(Q:aI) (r:List Int) (e:List Int) (v:Int) (hre:r=wd v++e) (hv:0<=v/\v<18446744073709551616) (hQ:∀ w,St w0 L w->Q.holds w) (hq:aX Q az r cz) (hs:St w0 (ah c #[.slice az r.length cz,.bool false] 202::L) w):Calls Tryz.prog 55 #[zP c 0] w (aZ λrv w'=>∃ (az2:Option Addr) (cz2:Nat),rv=.int .u64 v/\aX Q az2 e cz2/\St w0 (ah c #[.slice az2 e.length cz2,.bool false] 202::L) w'):=by
 subst hre
 refine Calls.ret (bu Q _ false hQ hq hs) ?_
 rintro v2 w2 ⟨vv,rr,sp,az2,cz2,rfl,h1,-,h2,h3⟩
 rw [dW hv] at h1
 cases h1
 exact⟨az2,cz2,rfl,h2,h3⟩
theorem fe {w0 w:World}{L:List aI}{c:Nat}{az:Option Addr}{cz:Nat}(Q:aI) (r:List Int) (e:List Int) (k:Nat) (hre:r=hf (k:Nat)++e) (hv:k<65536) (hQ:∀ w,St w0 L w->Q.holds w) (hq:aX Q az r cz) (hs:St w0 (ah c #[.slice az r.length cz,.bool false] 202::L) w):Calls Tryz.prog 130 #[zP c 0] w (aZ λrv w'=>∃ (az2:Option Addr) (cz2:Nat),rv=.int .u16 (k:Nat)/\aX Q az2 e cz2/\St w0 (ah c #[.slice az2 e.length cz2,.bool false] 202::L) w'):=by
 subst hre
 refine Calls.ret (kU Q _ false hQ hq hs) ?_
 rintro v2 w2 ⟨vv,rr,sp,az2,cz2,rfl,h1,-,h2,h3⟩
 rw [sT hv] at h1
 cases h1
 exact⟨az2,cz2,rfl,h2,h3⟩
theorem eT {w0 w:World}{L:List aI}{c:Nat}{az:Option Addr}{cz:Nat}(Q:aI) (r:List Int) (n:Nat) (l:List Int) (e:List Int) (hre:r=l++e) (hn:l.length=n) (hQ:∀ w,St w0 L w->Q.holds w) (hq:aX Q az r cz) (hs:St w0 (ah c #[.slice az r.length cz,.bool false] 202::L) w):Calls Tryz.prog 56 #[zP c 0,.int .i64 (n:Nat)] w (aZ λrv w'=>∃ (ao:Option Addr) (co:Nat) (az2:Option Addr) (cz2:Nat),rv=.slice ao l.length co/\aX Q az2 e cz2/\St w0 (Sl ao co 5 1 af l::ah c #[.slice az2 e.length cz2,.bool false] 202::L) w'):=by
 subst hre
 refine Calls.ret (ji Q _ false n hQ hq hs) ?_
 rintro v2 w2 ⟨ao,co,ll,rr,sp,az2,cz2,rfl,h1,h2,h3⟩
 rw [lV hn] at h1
 cases h1
 exact⟨ao,co,az2,cz2,rfl,h2,h3⟩
theorem mL {w0 w:World}{L:List aI}{c:Nat}{az:Option Addr}{cz:Nat}(r:List Int) (hs:St w0 (ah c #[.slice az r.length cz,.bool false] 202::L) w):Calls Tryz.prog 58 #[zP c 0] w (aZ λrv w'=>rv=.bool true/\St w0 (ah c #[.slice az r.length cz,.bool false] 202::L) w'):=by
 exact iJ r false hs
theorem zb {p:Prop}(h:p:=by first|omega|(simp only [List.length_append,List.length_nil,List.length_cons,List.length_take,List.length_drop,List.length_replicate,aY,aP];omega)):p:=h
theorem hU {w0 w:World}{L:List aI}(s:aC) (c:Int) (m:List Int) (hsl:s.toList=wd c++m) (hc:0<=c/\c<18446744073709551616) (hs:St w0 L w):Calls Tryz.prog 129 #[.agg (aC.cells s)] w (aZ λrv w'=>rv=.int .u64 c/\St w0 L w'):=by
 refine bp Tryz.func129 Tryz.ntmps129 ?_
 refine En (Ls (Lg [0] (Dz ?_)))
 refine ar.box rfl rfl zk (v:=.agg (aC.cells s)) zk hs (cs:=aC.cells s) zk ?_
 intro b1 w2 hs3
 refine Lo (aL (Lt (Ls (Dz ?_))))
 refine bL [1,2] (Hg 0 (.cI (zL b1 0 8 128) (.sub 0 8)) [.prop ((8:Int)=((8:Nat):Int)),.prop (((none:Option Operand)=none->(0:Nat)=0)/\((some (Operand.const (.int .i64 8)))=none->(8:Nat)=128)/\(0:Nat)<=8/\(8:Nat)<=128),.prop (Value.slice (some (if 128=0 then Addr.mk b1 0 none else (Addr.mk b1 0 none).add (0*1))) (8-0) (128-0)=Value.slice (some ⟨b1,0,none⟩) 8 128)] (aB za (aB ⟨(by first|(intro _;rfl)|(intro hc;cases hc)),(by first|(intro _;rfl)|(intro hc;cases hc)),za,za⟩ (aB (cw _ _ _ _ _ zf) av))) Hz) ?_
 refine aF (f:=54) (args:=#[zL b1 0 ((wd c).length) 128]) Tryz.call54 (df (wd c) zb (.inl ⟨_,_,rfl⟩) (λw h=>xu h 0 rfl hsl) hs3) ?_
 rintro v8 w9 ⟨cc4,ao5,co6,rfl,hs7⟩
 have hq10:aX (Sl ao5 co6 5 1 af (wd c)) ao5 (wd c) co6:=aX.new hs7 (j:=1) rfl (eC c) (by rw [aP];omega)
 refine Lo (Dz ?_)
 refine aF Tryz.call55 (fc (Sl ao5 co6 5 1 af (wd c)) (wd c) ([]:List Int) c zp zc (λw h=>h.at_ 0 rfl) hq10 hs7) ?_
 rintro v15 w16 ⟨az11,cz12,rfl,hq213,hs14⟩
 refine Lo (aL (Lt (Le (Dz ?_))))
 refine bg (v:=.int .u64 c) ?_
 have hs17:=hs14.dr 3
 exact⟨rfl,hs17⟩
theorem AV {w0 w:World}{L:List aI}(x:Int) (hs:St w0 L w):Calls Tryz.prog 132 #[.int .u8 x] w (aZ λrv w'=>rv=.bool ((x:Int) != 0)/\St w0 L w'):=by
 refine bp Tryz.func132 Tryz.ntmps132 ?_
 refine En (Ls (La (Lt (Ls (La (Lt (Le (Dz ?_))))))))
 refine bg (v:=.bool ((x:Int) != 0)) ?_
 exact⟨rfl,hs⟩
theorem yA {w0 w:World}{L:List aI}{al:Option Addr}{cl:Nat}(l:List Int) (hll:l.length<=100000) (hr:∀ w,St w0 L w->ag w al l.length 1 (λk=>af (l.getD k 0))) (hs:St w0 L w):Calls Tryz.prog 169 #[.slice al l.length cl,.func (.func 132) #[] #[]] w (aZ λrv w'=>∃ (v:Int),rv=.int .i64 v/\decide (v >= 0)=(l.any (λx=>(x:Int) != 0))/\St w0 L w'):=by
 refine bp Tryz.func169 Tryz.ntmps169 ?_
 refine En (Ls (La (Lt (Ls (Ls (La (Lt (Lb (Dz ?_)))))))))
 refine aE.loop (T:=Nat×(Option Addr)) (λgg=>[(0,.slice gg.2 l.length cl),(1,.func (.func 132) #[] #[]),(7,.int .i64 (l.length:Nat)),(8,.int .i64 (gg.1:Nat))]) (λgg w=>(gg.1<=l.length/\((l.take gg.1).any (λx=>(x:Int) != 0))=false/\∀ w,St w0 L w->ag w gg.2 l.length 1 (λq=>af (l.getD q 0)))/\St w0 L w) (λgg=>l.length-gg.1) (0,al) [0,1,7,8] zk ⟨⟨Nat.zero_le _,rfl,hr⟩,hs⟩ ?_
 rintro⟨k,aq⟩ w1 ⟨hp0,hs2⟩
 have hp:k<=l.length/\((l.take k).any (λx=>(x:Int) != 0))=false/\∀ w,St w0 L w->ag w aq l.length 1 (λq=>af (l.getD q 0)):=hp0
 have hs3:St w0 L w1:=hs2
 refine Zn [(0,.slice aq l.length cl),(1,.func (.func 132) #[] #[]),(7,.int .i64 (l.length:Nat)),(8,.int .i64 (k:Nat))] ?_
 have hw:=hp.2.2
 refine En (Ls (La (Lt (Ls (Dz ?_)))))
 refine Zi (((k:Nat):Int)<(l.length:Nat)) (λh4'=>?_) (λh4'=>?_)
 ·have hk:k<l.length:=za
  obtain⟨ab5,ao6,rfl⟩:=ag.isSome (hw _ (hs3.drop 0)) za
  refine En (Lk (Lt (Ls (Lb (Ls (La (Lt (Ls (Dz ?_)))))))))
  refine bL [5] (Hx 3 ((k:Nat):Int) ((l.length:Nat):Int) ab5 ao6 1 (Hg 4 (.gen [.int .u8 (l.getD k 0)]) [.cell ⟨ab5,ao6+(k*1),none⟩ (.int .u8 (l.getD k 0))] (aG (ag.cC (hw _ (hs3.drop 0)) (k:=k) zd (j:=0) zf zk) av) Hz)) ?_
  refine aF Tryz.call132 (AV (l.getD k 0) hs3) ?_
  rintro v8 w9 ⟨rfl,hs7⟩
  refine Lo (Ld (Lt (Dz ?_)))
  refine cS (t:=((l.getD k 0):Int) != 0) (λh10=>?_) (λh10=>?_)
  ·refine En (Ls (La (Lt (Le (Ll (Ly (uk (Ll (Ly (Dz ?_))))))))))
   refine bg (v:=.int .i64 (k:Nat)) ?_
   exact⟨(k:Nat),rfl,(by rw [show(l.any (λx=>(x:Int) != 0))=true from List.any_eq_true.2 ⟨_,eF (d:=(0:Int)) hk,h10⟩];exact decide_eq_true za),hs7⟩
  ·refine Zk (Zm (Zt (?_)))
   refine bj (cH 0 ((k:Nat)+1) Hz) ?_
   exact aw.back (k+1,some ⟨ab5,ao6,none⟩) [0,1,7,8] zk (by show l.length-(k+1)<l.length-k;omega) ⟨⟨za,by rw [bh (d:=(0:Int)) hk,List.any_append,hp.2.1];simp only [List.any_cons,List.any_nil,Bool.or_false,Bool.false_or];exact h10,hw⟩,hs7⟩
 ·have hke:l.take k=l:=List.take_of_length_le za
  refine En (Lx (gv (gw (Lh (Lt (Ls (La (Lt (Le (Dz ?_))))))))))
  refine bg (v:=.int .i64 (-1)) ?_
  exact⟨(-1),rfl,(by rw [<- hke,hp.2.1];rfl),hs3⟩
theorem yB {w0 w:World}{L:List aI}{al:Option Addr}{cl:Nat}(l:List Int) (hll:l.length<=100000) (hr:∀ w,St w0 L w->ag w al l.length 1 (λk=>af (l.getD k 0))) (hs:St w0 L w):Calls Tryz.prog 131 #[.slice al l.length cl,.func (.func 132) #[] #[]] w (aZ λrv w'=>rv=.bool (l.any (λx=>(x:Int) != 0))/\St w0 L w'):=by
 refine bp Tryz.func131 Tryz.ntmps131 ?_
 refine En (Ls (La (Lt (Ls (Lg [2] (Lu (Dz ?_)))))))
 refine aF (f:=169) (args:=#[.slice al l.length cl,.func (.func 132) #[] #[]]) Tryz.call169 (yA l zc (λw h=>hr _ (h.drop 0)) hs) ?_
 rintro v4 w5 ⟨v1,rfl,hv2,hs3⟩
 refine Lo (aL (Lt (Le (Dz ?_))))
 refine bg (v:=.bool (decide ((v1:Int) >= 0))) ?_
 exact⟨congrArg Value.bool hv2,hs3⟩
theorem iy {l:List Int}{a b:Nat}(h:a<=b):l.take a++(l.drop a).take (b-a)=l.take b:=by rw [<- List.take_add,Nat.add_sub_cancel' h]
def ga (b:List Int):List Int:=List.replicate (1200-((([]:List Int)++hf (b.length:Nat))++b).length) (0:Int)
theorem xw {b:List Int}(h:b.length<=1100):(bP b).take (10*120)=hf (b.length:Nat)++(b++ga b):=by
 rw [List.take_of_length_le (by rw [dF h];decide),bP,List.nil_append,List.append_assoc]
 rfl
theorem jy {b:List Int}(h:b.length<=1100):(ga b).length=1198-b.length:=by
 simp only [ga,List.length_replicate,List.length_append,List.length_nil,aY]
 omega
theorem AW (b:List Int):∀ z∈ga b,0<=z/\z<256:=λz hz=>by
 rw [(List.mem_replicate.1 hz).2]
 decide
theorem AX (b:List Int):((ga b).any λx=>(x:Int) != 0)=false:=by
 rw [List.any_eq_false]
 intro z hz
 rw [(List.mem_replicate.1 hz).2]
 decide
theorem oI (n:Int):∀ z∈hf n,0<=z/\z<256:=by
 intro x hx
 simp only [hf,List.mem_cons,List.not_mem_nil,or_false] at hx
 rcases hx with rfl|rfl<;>exact fY _
def cN (D:Nat->aC) (s:Nat) (c:Int) (b:List Int):Prop:=∀ i,i<10->D (s+i)=fD (mZ c b i)
theorem AY {w0 w:World}{L:List aI}{al:Option Addr}{cl:Nat}(b:List Int) (hbl:b.length<=1100) (hr:∀ w,St w0 L w->ag w al (ga b).length 1 (λk=>af ((ga b).getD k 0))) (hs:St w0 L w):Calls Tryz.prog 131 #[.slice al ((ga b).length) cl,.func (.func 132) #[] #[]] w (aZ λrv w'=>rv=.bool false/\St w0 L w'):=by
 exact Calls.ret (yB _ (by rw [jy hbl];omega) hr hs) λv w2 h=>⟨h.1.trans (by rw [AX]),h.2⟩
theorem oJ {w0 w:World}{L:List aI}{d:Nat}{D:Nat->aC}{nk:Nat}{g:et}(at_:Nat) (wh:Nat) (c:Int) (b:List Int) (hat:at_+20<=32768) (hwh:wh<=1) (hc:0<=c/\c<18446744073709551616) (hbl:b.length<=1100) (hbb:∀ z∈b,0<=z/\z<256) (hD:cN D (at_+wh*10) c b) (hs:St w0 (DK d D nk g::L) w):Calls Tryz.prog 93 #[.agg #[zP d 0,.int .i64 (at_:Nat)],.int .i64 (wh:Nat)] w (aZ λrv w'=>∃ (ao:Option Addr) (co:Nat),rv=.tuple #[.int .u64 c,.slice ao b.length co]/\St w0 (DK d D nk g::Sl ao co 5 1 af b::L) w'):=by
 refine bp Tryz.func93 Tryz.ntmps93 ?_
 refine En (Ls (Lg [0] (Dz ?_)))
 refine ar.box rfl rfl zk (v:=.agg #[zP d 0,.int .i64 (at_:Nat)]) zk hs (cs:=#[zP d 0,.int .i64 (at_:Nat)]) zk ?_
 intro b1 w2 hs3
 refine Lo (aL (Lt (Ls (La (Lt (Ls (Ls (La (Lt (Lb (Dz ?_)))))))))))
 have hs4:=St.bW hs3 5 1 af
 have hs5:=((hs4.pl 0).pl 2).pl 2
 have hs6:St w0 (ah b1 #[zP d 0,.int .i64 (at_:Nat)] 161::DK d D nk g::Sl none 0 5 1 af ((bP b).take (0*120))::L) w2:=by rw [Nat.zero_mul,List.take_zero];exact hs5
 refine Zn [(13,.int .i64 0),(6,.slice none 0 0),(5,.slice none 0 0),(4,.int .u64 0),(2,zP b1 0),(1,.int .i64 (wh:Nat))] ?_
 refine aE.cq (S':=[(13,.int .i64 0),(6,.slice none (((bP b).take (0*120)).length) 0),(5,.slice none 0 0),(4,.int .u64 0),(2,zP b1 0),(1,.int .i64 (wh:Nat))]) (by simp only [Nat.zero_mul,List.take_zero,List.length_nil]) ?_
 refine aE.loop (T:=Nat×Int×(Option Addr)×Nat) (λgg=>[(1,.int .i64 (wh:Nat)),(2,zP b1 0),(4,.int .u64 gg.2.1),(6,.slice gg.2.2.1 (((bP b).take (gg.1*120)).length) gg.2.2.2),(13,.int .i64 (gg.1:Nat))]) (λgg w=>(gg.1<=10/\(0<gg.1->gg.2.1=c))/\St w0 (ah b1 #[zP d 0,.int .i64 (at_:Nat)] 161::DK d D nk g::Sl gg.2.2.1 gg.2.2.2 5 1 af ((bP b).take (gg.1*120))::L) w) (λgg=>10-gg.1) (0,0,none,0) [1,2,4,6,13] zk ⟨⟨za,λh=>absurd h za⟩,hs6⟩ ?_
 rintro⟨i,nv,a1,c1⟩ w7 ⟨hp0,hs8⟩
 have hp:i<=10/\(0<i->nv=c):=hp0
 have hs9:St w0 (ah b1 #[zP d 0,.int .i64 (at_:Nat)] 161::DK d D nk g::Sl a1 c1 5 1 af ((bP b).take (i*120))::L) w7:=hs8
 refine Zn [(1,.int .i64 (wh:Nat)),(2,zP b1 0),(4,.int .u64 nv),(6,.slice a1 (((bP b).take (i*120)).length) c1),(13,.int .i64 (i:Nat))] ?_
 refine En (Ls (La (Lt (Ls (Dz ?_)))))
 refine Zi (((i:Nat):Int)<10) (λh10'=>?_) (λh10'=>?_)
 ·refine En (Lk (Lt (Ls (Lb (Ls (La (Lt (Ls (Dz ?_)))))))))
  refine bL [9,13,14] (Hl 1 0 0 hs9 (Hl 3 0 1 hs9 (cH 5 ((wh:Nat)*10) (cH 6 ((at_:Nat)+((wh:Nat)*10)) (cH 8 (((at_:Nat)+((wh:Nat)*10))+(i:Nat)) Hz))))) ?_
  have hs11:=hs9.pl 1
  refine aF Tryz.call38 (gT ((at_+(wh*10))+i) zc hs11) ?_
  rintro v13 w14 ⟨rfl,hs12⟩
  refine Lo (Lu (Dz ?_))
  refine ar.alloc rfl rfl zk (z:=.agg (aC.cells fX)) zk hs12 (cs:=aC.cells fX) zk ?_
  intro b15 w16 hs17
  refine Lo (Dz ?_)
  refine Zv (b:=b15) (off:=0) (v:=.agg (aC.cells (D ((at_+(wh*10))+i)))) (ti:=Tryz.t96) zk hs17 0 (cs':=aC.cells (D ((at_+(wh*10))+i))) ?_
  intro w18 hs19
  refine Lo (aL (Lt (Ls (Ls (Lg [7] (Dz ?_))))))
  refine Zr 0 6 [] ?_
  rcases Bool.eq_false_or_eq_true (decide (((i:Nat):Int)>0)) with h20|h20
  ·refine di 34 true h20 ?_
   have h20':((i:Nat):Int)>0:=of_decide_eq_true h20
   refine Zj (du 6 0 0 128 (aC.cells (D ((at_+(wh*10))+i))) hs19 Hz) ?_
   refine aF Tryz.call129 (hU (D ((at_+(wh*10))+i)) c (((bP b).drop (i*120)).take ((i+1)*120-i*120)) (show(D (at_+wh*10+i)).toList=wd c++((bP b).drop (i*120)).take ((i+1)*120-i*120) from by rw [hD i za,hJ (eN hbl za)];rfl) zc hs19) ?_
   rintro v22 w23 ⟨rfl,hs21⟩
   refine Lo (aL (Lt (Dz ?_)))
   refine cS (t:=(c:Int) != nv) (λh24=>?_) (λh24=>?_)
   ·have h24':¬ ((c:Int)=nv):=jb h24
    exfalso;omega
   ·have h24':(c:Int)=nv:=iF h24
    refine Zk (Zt (Zs (?_)))
    refine bL [1] (du 0 0 0 128 (aC.cells (D ((at_+(wh*10))+i))) hs21 Hz) ?_
    refine aF Tryz.call129 (hU (D ((at_+(wh*10))+i)) c (((bP b).drop (i*120)).take ((i+1)*120-i*120)) (show(D (at_+wh*10+i)).toList=wd c++((bP b).drop (i*120)).take ((i+1)*120-i*120) from by rw [hD i za,hJ (eN hbl za)];rfl) zc hs21) ?_
    rintro v26 w27 ⟨rfl,hs25⟩
    refine Lo (aL (Lt (Dz ?_)))
    refine bL [2] (Hg 1 (.cI (zL b15 (0+(8*1)) ((((bP b).drop (i*120)).take ((i+1)*120-i*120)).length) (128-8)) (.sub 8 128)) [.prop ((8:Int)=((8:Nat):Int)),.prop (((some (Operand.const (.int .i64 8)))=none->(8:Nat)=0)/\((none:Option Operand)=none->(128:Nat)=128)/\(8:Nat)<=128/\(128:Nat)<=128),.prop (Value.slice (some (if 128=8 then Addr.mk b15 0 none else (Addr.mk b15 0 none).add (8*1))) (128-8) (128-8)=Value.slice (some ⟨b15,0+(8*1),none⟩) ((((bP b).drop (i*120)).take ((i+1)*120-i*120)).length) (128-8))] (aB za (aB ⟨(by first|(intro _;rfl)|(intro hc;cases hc)),(by first|(intro _;rfl)|(intro hc;cases hc)),za,za⟩ (aB (by rw [(show(((bP b).drop (i*120)).take ((i+1)*120-i*120)).length=128-8 from by simp only [List.length_take,List.length_drop,dF hbl];omega)];exact jG za za) av))) Hz) ?_
    have hs30:=hs25.pl 3
    refine ar.append rfl zk aJ aj (ad:=a1) (c:=c1) (xs:=(bP b).take (i*120)) (ys:=((bP b).drop (i*120)).take ((i+1)*120-i*120)) (adx:=some ⟨b15,0+(8*1),none⟩) (cx:=(128-8)) (0:Int) zk hs30 (xv hs30 1 rfl (show(D (at_+wh*10+i)).toList=wd c++((bP b).drop (i*120)).take ((i+1)*120-i*120) from by rw [hD i za,hJ (eN hbl za)];rfl) (aP c)) (λh=>nomatch h) (by simp only [List.length_append,List.length_take,List.length_drop,dF hbl];omega) (by simp only [List.length_append,List.length_take,List.length_drop,dF hbl];omega) ?_
    intro ad31 c32 w28 hs29
    refine Lo (aL (Lm (Lt (Dz ?_))))
    refine bj (cH 0 ((i:Nat)+1) Hz) ?_
    have hs33:=(((hs29.pl 0).pl 2).pl 3).pl 3
    have hs34:=hs33.dr 1
    have hs35:St w0 (ah b1 #[zP d 0,.int .i64 (at_:Nat)] 161::DK d D nk g::Sl ad31 c32 5 1 af ((bP b).take ((i+1)*120))::L) w28:=(show((bP b).take (i*120))++(((bP b).drop (i*120)).take ((i+1)*120-i*120))=(bP b).take ((i+1)*120) from iy za)▸hs34
    refine aw.pick [13,6,4,1,2] (S':=[(13,.int .i64 ((i:Nat)+1)),(6,.slice ad31 ((((bP b).take (i*120))++(((bP b).drop (i*120)).take ((i+1)*120-i*120))).length) c32),(4,.int .u64 c),(1,.int .i64 (wh:Nat)),(2,zP b1 0)]) zk ?_
    refine aw.cq (S':=[(13,.int .i64 ((i:Nat)+1)),(6,.slice ad31 (((bP b).take ((i+1)*120)).length) c32),(4,.int .u64 c),(1,.int .i64 (wh:Nat)),(2,zP b1 0)]) (by rw [(show((bP b).take (i*120))++(((bP b).drop (i*120)).take ((i+1)*120-i*120))=(bP b).take ((i+1)*120) from iy za)]) ?_
    exact aw.back (i+1,c,ad31,c32) [1,2,4,6,13] zk (by show 10-(i+1)<10-i;omega) ⟨⟨za,λ_=>rfl⟩,hs35⟩
  ·refine di 34 false h20 ?_
   have h20':¬ (((i:Nat):Int)>0):=of_decide_eq_false h20
   refine En (Lu (Dz ?_))
   refine ar.skip rfl zk cK ?_
   refine En (aL (Lt (LF (Lk (Lt (Ls (Dz ?_)))))))
   refine bL [1] (du 0 0 0 128 (aC.cells (D ((at_+(wh*10))+i))) hs19 Hz) ?_
   refine aF Tryz.call129 (hU (D ((at_+(wh*10))+i)) c (((bP b).drop (i*120)).take ((i+1)*120-i*120)) (show(D (at_+wh*10+i)).toList=wd c++((bP b).drop (i*120)).take ((i+1)*120-i*120) from by rw [hD i za,hJ (eN hbl za)];rfl) zc hs19) ?_
   rintro v37 w38 ⟨rfl,hs36⟩
   refine Lo (aL (Lt (Dz ?_)))
   refine bL [2] (Hg 1 (.cI (zL b15 (0+(8*1)) ((((bP b).drop (i*120)).take ((i+1)*120-i*120)).length) (128-8)) (.sub 8 128)) [.prop ((8:Int)=((8:Nat):Int)),.prop (((some (Operand.const (.int .i64 8)))=none->(8:Nat)=0)/\((none:Option Operand)=none->(128:Nat)=128)/\(8:Nat)<=128/\(128:Nat)<=128),.prop (Value.slice (some (if 128=8 then Addr.mk b15 0 none else (Addr.mk b15 0 none).add (8*1))) (128-8) (128-8)=Value.slice (some ⟨b15,0+(8*1),none⟩) ((((bP b).drop (i*120)).take ((i+1)*120-i*120)).length) (128-8))] (aB za (aB ⟨(by first|(intro _;rfl)|(intro hc;cases hc)),(by first|(intro _;rfl)|(intro hc;cases hc)),za,za⟩ (aB (by rw [(show(((bP b).drop (i*120)).take ((i+1)*120-i*120)).length=128-8 from by simp only [List.length_take,List.length_drop,dF hbl];omega)];exact jG za za) av))) Hz) ?_
   have hs41:=hs36.pl 3
   refine ar.append rfl zk aJ aj (ad:=a1) (c:=c1) (xs:=(bP b).take (i*120)) (ys:=((bP b).drop (i*120)).take ((i+1)*120-i*120)) (adx:=some ⟨b15,0+(8*1),none⟩) (cx:=(128-8)) (0:Int) zk hs41 (xv hs41 1 rfl (show(D (at_+wh*10+i)).toList=wd c++((bP b).drop (i*120)).take ((i+1)*120-i*120) from by rw [hD i za,hJ (eN hbl za)];rfl) (aP c)) (λh=>nomatch h) (by simp only [List.length_append,List.length_take,List.length_drop,dF hbl];omega) (by simp only [List.length_append,List.length_take,List.length_drop,dF hbl];omega) ?_
   intro ad42 c43 w39 hs40
   refine Lo (aL (Lm (Lt (Dz ?_))))
   refine bj (cH 0 ((i:Nat)+1) Hz) ?_
   have hs44:=(((hs40.pl 0).pl 2).pl 3).pl 3
   have hs45:=hs44.dr 1
   have hs46:St w0 (ah b1 #[zP d 0,.int .i64 (at_:Nat)] 161::DK d D nk g::Sl ad42 c43 5 1 af ((bP b).take ((i+1)*120))::L) w39:=(show((bP b).take (i*120))++(((bP b).drop (i*120)).take ((i+1)*120-i*120))=(bP b).take ((i+1)*120) from iy za)▸hs45
   refine aw.pick [13,6,4,1,2] (S':=[(13,.int .i64 ((i:Nat)+1)),(6,.slice ad42 ((((bP b).take (i*120))++(((bP b).drop (i*120)).take ((i+1)*120-i*120))).length) c43),(4,.int .u64 c),(1,.int .i64 (wh:Nat)),(2,zP b1 0)]) zk ?_
   refine aw.cq (S':=[(13,.int .i64 ((i:Nat)+1)),(6,.slice ad42 (((bP b).take ((i+1)*120)).length) c43),(4,.int .u64 c),(1,.int .i64 (wh:Nat)),(2,zP b1 0)]) (by rw [(show((bP b).take (i*120))++(((bP b).drop (i*120)).take ((i+1)*120-i*120))=(bP b).take ((i+1)*120) from iy za)]) ?_
   exact aw.back (i+1,c,ad42,c43) [1,2,4,6,13] zk (by show 10-(i+1)<10-i;omega) ⟨⟨za,λ_=>rfl⟩,hs46⟩
 ·obtain rfl:10=i:=za
  obtain rfl:c=nv:=(hp.2 za).symm
  have hs47:St w0 (ah b1 #[zP d 0,.int .i64 (at_:Nat)] 161::DK d D nk g::Sl a1 c1 5 1 af (hf (b.length:Nat)++(b++ga b))::L) w7:=(xw hbl)▸hs9
  refine Zn [(14,.bool (decide (((10:Nat):Int)<10))),(1,.int .i64 (wh:Nat)),(2,zP b1 0),(4,.int .u64 c),(6,.slice a1 (((bP b).take (10*120)).length) c1),(13,.int .i64 10)] ?_
  refine aE.cq (S':=[(14,.bool (decide (((10:Nat):Int)<10))),(1,.int .i64 (wh:Nat)),(2,zP b1 0),(4,.int .u64 c),(6,.slice a1 ((hf (b.length:Nat)++(b++ga b)).length) c1),(13,.int .i64 10)]) (by rw [xw hbl]) ?_
  refine En (Lx (gv (gw (Lh (Lt (Ls (Lg [1] (Lu (Dz ?_)))))))))
  refine aF (f:=54) (args:=#[.slice a1 ((hf (b.length:Nat)++(b++ga b)).length) c1]) Tryz.call54 (df (hf (b.length:Nat)++(b++ga b)) (by simp only [List.length_append,aY,jy hbl];omega) (dQ hs47 2 rfl) (λw h=>h.rows 2 rfl aj.size _) hs47) ?_
  rintro v52 w53 ⟨cc48,ao49,co50,rfl,hs51⟩
  have hq54:aX (Sl ao49 co50 5 1 af (hf (b.length:Nat)++(b++ga b))) ao49 (hf (b.length:Nat)++(b++ga b)) co50:=aX.new hs51 (j:=1) rfl (fE.app (oI _) (fE.app hbb (AW b))) (by simp only [List.length_append,aY,jy hbl];omega)
  refine Lo (aL (Lt (Ls (Lg [1] (Lu (Dz ?_))))))
  refine aF Tryz.call130 (fe (Sl ao49 co50 5 1 af (hf (b.length:Nat)++(b++ga b))) (hf (b.length:Nat)++(b++ga b)) (b++ga b) b.length zp zc (λw h=>h.at_ 0 rfl) hq54 hs51) ?_
  rintro v59 w60 ⟨az55,cz56,rfl,hq257,hs58⟩
  refine z4 (cH 2 (b.length:Nat) Hz) ?_
  refine En (Lt (Ls (Lg [2] (Lu (Dz ?_)))))
  refine aF Tryz.call56 (eT (Sl ao49 co50 5 1 af (hf (b.length:Nat)++(b++ga b))) (b++ga b) b.length b (ga b) zp rfl (λw h=>h.at_ 0 rfl) hq257 hs58) ?_
  rintro v67 w68 ⟨ao61,co62,az63,cz64,rfl,hq265,hs66⟩
  refine Lo (aL (Lt (Ls (Ls (Lg [2,3] (Lu (Dz ?_)))))))
  have hs69:=hs66.pl 1
  refine aF (f:=57) (args:=#[zP cc48 0]) Tryz.call57 (gx (ga b) false hs69) ?_
  rintro v71 w72 ⟨rfl,hs70⟩
  refine Lo (Dz ?_)
  refine aF Tryz.call56 (eT (Sl ao49 co50 5 1 af (hf (b.length:Nat)++(b++ga b))) (ga b) ((ga b).length) (ga b) ([]:List Int) zp rfl (λw h=>h.at_ 1 rfl) hq265 hs70) ?_
  rintro v79 w80 ⟨ao73,co74,az75,cz76,rfl,hq277,hs78⟩
  refine Lo (aL (Lt (Ls (Lg [1,9] (Lu (Dz ?_))))))
  have hs81:=hs78.pl 1
  refine aF Tryz.call58 (mL ([]:List Int) hs81) ?_
  rintro v83 w84 ⟨rfl,hs82⟩
  refine Lo (Dz ?_)
  refine Zr 2 6 [] ?_
  rcases Bool.eq_false_or_eq_true (decide (((b.length:Nat):Int)>1100)) with h85|h85
  ·refine di 66 true h85 ?_
   have h85':((b.length:Nat):Int)>1100:=of_decide_eq_true h85
   exfalso;omega
  ·refine di 66 false h85 ?_
   have h85':¬ (((b.length:Nat):Int)>1100):=of_decide_eq_false h85
   refine En (Lu (Dz ?_))
   refine aF (f:=131) (args:=#[.slice ao73 ((ga b).length) co74,.func (.func 132) #[] #[]]) Tryz.call131 (AY b zb (λw h=>h.rows 1 rfl aj.size _) hs82) ?_
   rintro v87 w88 ⟨rfl,hs86⟩
   refine Lo (aL (Lt (LF (Lk (Lt (Ls (La (Lt (Le (Dz ?_))))))))))
   refine jE (v:=.int .u64 c) (v':=.slice ao61 b.length co62) ?_
   have hs89:=((((((hs86.pl 2).pl 5).pl 6).pl 6).pl 6).pl 6).pl 6
   have hs90:=hs89.dr 5
   exact⟨ao61,co62,rfl,hs90⟩
theorem qC {w0 w:World}{L:List aI}{d:Nat}(at_:Nat) (hat:at_+20<=32768) (hs:St w0 L w):Calls Tryz.prog 85 #[.agg #[zP d 0,.int .i64 (at_:Nat)]] w (aZ λrv w'=>rv=.int .i64 0/\St w0 L w'):=by
 refine enter (args:=[.agg #[zP d 0,.int .i64 (at_:Nat)]]) Tryz.func85 rfl Tryz.ntmps85 (Nat.le_of_ble_eq_true zk) ?_
 refine Zn [(0,.agg #[zP d 0,.int .i64 (at_:Nat)])] ?_
 refine Zs ?_
 refine bU (.ef 0 (.rd 1 .done)) ?_
 refine ar.box rfl rfl zk (v:=.agg #[zP d 0,.int .i64 (at_:Nat)]) zk hs (cs:=#[zP d 0,.int .i64 (at_:Nat)]) zk ?_
 intro b1 w2 hs3
 refine⟨cK,?_⟩
 refine Zr 1 1 [] ?_
 refine Zd (Zt (Zs (Zb (Zs ?_))))
 refine bU (.rd 0 (.rd 1 (.rd 2 (.rd 3 .done)))) ?_
 refine Zp 0 4 [(1,.gen [zP d 0])] [(1,[.cell ⟨b1,0,none⟩ (zP d 0)])] (ak (aG (hs3.cell 0 rfl zk) av) cW) ?_
 refine Zd (Zt (y3 (Zs (Zs ?_))))
 refine bU (.rd 0 (.rd 1 (.rd 2 (.rd 3 .done)))) ?_
 refine Zp 0 4 [(1,.gen [.int .i64 (at_:Nat)])] [(1,[.cell ⟨b1,1,none⟩ (.int .i64 (at_:Nat))])] (ak (aG (hs3.cell 0 rfl zk) av) cW) ?_
 refine Zd (Zt ?_)
 refine cS (t:=decide (((at_:Nat):Int)<0)) (λh4=>?_) (λh4=>?_)
 ·have h4':((at_:Nat):Int)<0:=of_decide_eq_true h4
  exfalso;omega
 ·have h4':¬ (((at_:Nat):Int)<0):=of_decide_eq_false h4
  refine bU (.rd 0 (.rd 1 (.rd 2 (.rd 3 .done)))) ?_
  refine Zp 0 4 [(1,.gen [.int .i64 (at_:Nat)])] [(1,[.cell ⟨b1,1,none⟩ (.int .i64 (at_:Nat))])] (ak (aG (hs3.cell 0 rfl zk) av) cW) ?_
  refine Zd (Zt ?_)
  refine cS (t:=decide (((at_:Nat):Int)>32748)) (λh5=>?_) (λh5=>?_)
  ·have h5':((at_:Nat):Int)>32748:=of_decide_eq_true h5
   exfalso;omega
  ·have h5':¬ (((at_:Nat):Int)>32748):=of_decide_eq_false h5
   refine Zk (Zm (Zt (Zs ?_)))
   refine bU (.rd 0 .done) ?_
   refine Zr 0 1 [] ?_
   refine Zd (Zt (Ze ?_))
   refine bg (v:=.int .i64 0) ?_
   have hs6:=hs3.dr 1
   exact⟨rfl,hs6⟩
theorem lB {w0 w:World}{L:List aI}{d:Nat}{D:Nat->aC}{nk:Nat}{g:et}(at_:Nat) (hat:at_+20<=32768) (hk:nk<800) (hs:St w0 (DK d D nk g::L) w):Calls Tryz.prog 39 #[zP d 0,.int .i64 (at_:Nat)] w (aZ λrv w'=>∃ (gd2:et),rv=.int .i64 0/\St w0 (DK d (fo (fo D (at_+(0*10)) 2 [] 10) (at_+(1*10)) 1 [] 10) 0 gd2::L) w'):=by
 refine enter (args:=[zP d 0,.int .i64 (at_:Nat)]) Tryz.func39 rfl Tryz.ntmps39 (Nat.le_of_ble_eq_true zk) ?_
 refine Zn [(0,zP d 0),(1,.int .i64 (at_:Nat))] ?_
 refine Zs ?_
 refine bU (.rd 0 .done) ?_
 refine Zr 0 1 [] ?_
 refine Zd (Zt (Zs ?_))
 refine bU (.rd 0 (.rd 1 (.rd 2 (.ef 3 (.ef 4 .done))))) ?_
 refine Zr 0 3 [] ?_
 refine ar.alloc rfl rfl zk (z:=.agg #[.pointer none,.int .i64 0]) zk hs (cs:=#[.pointer none,.int .i64 0]) zk ?_
 intro b1 w2 hs3
 refine⟨cK,?_⟩
 refine Zv (b:=b1) (off:=0) (v:=.agg #[zP d 0,.int .i64 (at_:Nat)]) (ti:=Tryz.t161) zk hs3 0 (cs':=#[zP d 0,.int .i64 (at_:Nat)]) ?_
 intro w4 hs5
 refine⟨cK,?_⟩
 refine Zd (Zt (Zs (Zs ?_)))
 refine bU (.rd 0 (.ef 1 (.rd 2 .done))) ?_
 refine Zp 0 1 [(0,.agg #[zP d 0,.int .i64 (at_:Nat)])] [(0,[.prop (Array.size (#[zP d 0,.int .i64 (at_:Nat)]:Array Value)=2),.cells ⟨b1,0,none⟩ #[zP d 0,.int .i64 (at_:Nat)]])] (ak (aB zk (dq (hs5.cells 0 0 rfl zk) av)) cW) ?_
 refine aF (f:=85) (args:=#[.agg #[zP d 0,.int .i64 (at_:Nat)]]) Tryz.call85 (qC at_ zc hs5) ?_
 rintro v7 w8 ⟨rfl,hs6⟩
 refine⟨cK,?_⟩
 refine Zr 2 1 [] ?_
 refine Zd (Zt (Zs ?_))
 refine bU (.rd 0 (.rd 1 .done)) ?_
 refine Zr 0 2 [] ?_
 refine Zd (Zt (y3 (Zk (Zt (Zs (Zs ?_))))))
 refine bU (.rd 0 .done) ?_
 refine Zr 0 1 [] ?_
 refine Zd (Zt (Zb ?_))
 refine aE.dJ 3 ?_
 refine Zs ?_
 refine bU (.rd 0 .done) ?_
 refine Zr 0 1 [] ?_
 refine Zd (Zt (Zs (CE (Zk (Zt (Zs (Zb (Zs ?_))))))))
 refine bU (.rd 0 (.rd 1 .done)) ?_
 refine Zr 0 2 [] ?_
 refine Zd (Zt (Zs ?_))
 refine bU (.rd 0 (.rd 1 (.rd 2 (.rd 3 (.rd 4 (.ef 5 (.rd 6 .done))))))) ?_
 refine Zp 0 5 [(0,.agg #[zP d 0,.int .i64 (at_:Nat)])] [(0,[.prop (Array.size (#[zP d 0,.int .i64 (at_:Nat)]:Array Value)=2),.cells ⟨b1,0,none⟩ #[zP d 0,.int .i64 (at_:Nat)]])] (ak (aB zk (dq (hs6.cells 0 0 rfl zk) av)) cW) ?_
 have hs9:=hs6.pl 1
 refine aF (f:=86) (args:=#[.agg #[zP d 0,.int .i64 (at_:Nat)],.int .i64 0,.int .u64 2,.slice none (([]:List Int).length) 0]) Tryz.call86 (jw at_ 0 2 ([]:List Int) zc zK zK zK (λ_=>rfl) zc (λ_ _=>ag.nil _ _ _) hs9) ?_
 rintro v12 w13 ⟨gd10,rfl,hs11⟩
 refine⟨cK,?_⟩
 refine Zr 6 1 [] ?_
 refine Zd (Zt (Zs ?_))
 refine bU (.rd 0 (.rd 1 .done)) ?_
 refine Zr 0 2 [] ?_
 refine Zd (Zt (y3 (Zk (Zm (Zt ?_)))))
 refine bU (.rd 0 (.rd 1 .done)) ?_
 refine Zr 0 2 [] ?_
 refine Zd ?_
 refine aw.again ?_
 refine Zs ?_
 refine bU (.rd 0 .done) ?_
 refine Zr 0 1 [] ?_
 refine Zd (Zt (Zs (CE (Zk (Zt (Zs (Zb (Zs ?_))))))))
 refine bU (.rd 0 (.rd 1 .done)) ?_
 refine Zr 0 2 [] ?_
 refine Zd (Zt (Zs ?_))
 refine bU (.rd 0 (.rd 1 (.rd 2 (.rd 3 (.rd 4 (.ef 5 (.rd 6 .done))))))) ?_
 refine Zp 0 5 [(0,.agg #[zP d 0,.int .i64 (at_:Nat)])] [(0,[.prop (Array.size (#[zP d 0,.int .i64 (at_:Nat)]:Array Value)=2),.cells ⟨b1,0,none⟩ #[zP d 0,.int .i64 (at_:Nat)]])] (ak (aB zk (dq (hs11.cells 1 0 rfl zk) av)) cW) ?_
 refine aF (f:=86) (args:=#[.agg #[zP d 0,.int .i64 (at_:Nat)],.int .i64 1,.int .u64 1,.slice none (([]:List Int).length) 0]) Tryz.call86 (jw at_ 1 1 ([]:List Int) zc zc zK zK (λ_=>rfl) zc (λ_ _=>ag.nil _ _ _) hs11) ?_
 rintro v16 w17 ⟨gd14,rfl,hs15⟩
 refine⟨cK,?_⟩
 refine Zr 6 1 [] ?_
 refine Zd (Zt (Zs ?_))
 refine bU (.rd 0 (.rd 1 .done)) ?_
 refine Zr 0 2 [] ?_
 refine Zd (Zt (y3 (Zk (Zm (Zt ?_)))))
 refine bU (.rd 0 (.rd 1 .done)) ?_
 refine Zr 0 2 [] ?_
 refine Zd ?_
 refine aw.again ?_
 refine Zs ?_
 refine bU (.rd 0 .done) ?_
 refine Zr 0 1 [] ?_
 refine Zd (Zt (Zs (y3 (Zx (aw.da (aw.dc (aw.jR (Zt (Zs ?_)))))))))
 refine bU (.rd 0 (.ef 1 (.rd 2 .done))) ?_
 refine Zr 0 1 [] ?_
 refine aF (f:=87) (args:=#[zP d 0]) Tryz.call87 (kv zc hs15) ?_
 rintro v20 w21 ⟨gd18,rfl,hs19⟩
 refine⟨cK,?_⟩
 refine Zr 2 1 [] ?_
 refine Zd (Zt (Ze ?_))
 refine bg (v:=.int .i64 0) ?_
 have hs22:=(hs19.pl 0).pl 1
 have hs23:=hs22.dr 1
 exact⟨gd18,rfl,hs23⟩
theorem jz {w0 w:World}{L:List aI}{d:Nat}{D:Nat->aC}{nk:Nat}{g:et}(at_:Nat) (cA:Int) (bA:List Int) (cB:Int) (bB:List Int) (hat:at_+20<=32768) (hc0:0<=cA/\cA<18446744073709551616) (hbl0:bA.length<=1100) (hbb0:∀ z∈bA,0<=z/\z<256) (hD0:cN D (at_+0*10) cA bA) (hc1:0<=cB/\cB<18446744073709551616) (hbl1:bB.length<=1100) (hbb1:∀ z∈bB,0<=z/\z<256) (hD1:cN D (at_+1*10) cB bB) (hs:St w0 (DK d D nk g::L) w):Calls Tryz.prog 52 #[zP d 0,.int .i64 (at_:Nat)] w (aZ λrv w'=>(rv=.tuple #[.pointer none,.int .i64 9]/\(cA=0/\cB=0)/\St w0 (DK d D nk g::L) w')\/(∃ (cb:Nat) (ao:Option Addr) (co:Nat),rv=.tuple #[zP cb 0,.int .i64 0]/\cB>cA/\St w0 (ah cb #[zP d 0,.int .i64 (at_:Nat),.slice ao bB.length co,.int .i64 1,.bool false] 197::Sl ao co 5 1 af bB::DK d D nk g::L) w')\/(∃ (cb:Nat) (ao:Option Addr) (co:Nat),rv=.tuple #[zP cb 0,.int .i64 0]/\(¬ cB>cA/\(cA≠0\/cB≠0))/\St w0 (ah cb #[zP d 0,.int .i64 (at_:Nat),.slice ao bA.length co,.int .i64 0,.bool false] 197::Sl ao co 5 1 af bA::DK d D nk g::L) w')):=by
 refine bp Tryz.func52 Tryz.ntmps52 ?_
 refine En (Ls (La (Lt (Ls (Lg [4] (Lu (Dz ?_)))))))
 refine ar.box rfl rfl zk (v:=.agg #[zP d 0,.int .i64 (at_:Nat),.slice none 0 0,.int .i64 0,.bool false]) zk hs (cs:=#[zP d 0,.int .i64 (at_:Nat),.slice none 0 0,.int .i64 0,.bool false]) zk ?_
 intro b1 w2 hs3
 refine Lo (aL (Lt (Ls (Ls (Dz ?_)))))
 refine bL [4] (du 3 0 0 2 (#[zP d 0,.int .i64 (at_:Nat)]) hs3 Hz) ?_
 refine aF (f:=85) (args:=#[.agg #[zP d 0,.int .i64 (at_:Nat)]]) Tryz.call85 (qC at_ zc hs3) ?_
 rintro v5 w6 ⟨rfl,hs4⟩
 refine Lo (aL (Lt (Ls (La (Lt (LF (Lk (Lt (Ls (Ls (Lg [1] (Lu (Dz ?_)))))))))))))
 have hs7:=hs4.pl 1
 refine aF Tryz.call80 (hK hs7) ?_
 rintro v9 w10 ⟨rfl,hs8⟩
 refine Lo (aL (Lt (LF (Lk (Lt (Ls (Dz ?_)))))))
 refine bL [4] (du 3 1 0 2 (#[zP d 0,.int .i64 (at_:Nat)]) hs8 Hz) ?_
 refine aF Tryz.call93 (oJ at_ 0 cA bA zc zc zc zb zc zc hs8) ?_
 rintro v14 w15 ⟨ao11,co12,rfl,hs13⟩
 refine Lo (aL (Lt (Ls (Dz ?_))))
 refine bL [4] (du 3 2 0 2 (#[zP d 0,.int .i64 (at_:Nat)]) hs13 Hz) ?_
 refine aF Tryz.call93 (oJ at_ 1 cB bB zc zc zc zb zc zc hs13) ?_
 rintro v19 w20 ⟨ao16,co17,rfl,hs18⟩
 refine Lo (aL (Lt (Ls (Lb (Ls (Dz ?_))))))
 refine aE.join (T:=Unit) (E:=λ_=>[(48,.bool (((cA:Int) == 0) && ((cB:Int) == 0))),(11,.slice ao16 bB.length co17),(10,.int .u64 cB),(9,.slice ao11 bA.length co12),(8,.int .u64 cA),(6,zP b1 0),(5,.int .i64 0),(4,.pointer none)]) (F:=λ_ w=>St w0 (DK d D nk g::Sl ao16 co17 5 1 af bB::Sl ao11 co12 5 1 af bA::ah b1 #[zP d 0,.int .i64 (at_:Nat),.slice none 0 0,.int .i64 0,.bool false] 197::L) w) ?_ ?_
 ·refine Zg [] ?_
  refine Zr 0 3 [] ?_
  rcases Bool.eq_false_or_eq_true ((cA:Int) == 0) with h21|h21
  ·refine di 51 true h21 ?_
   have h21':(cA:Int)=0:=dt h21
   refine En (aL (Dz ?_))
   refine aw.pick [48,11,10,9,8,6,5,4] (S':=[(48,.bool ((cB:Int) == 0)),(11,.slice ao16 bB.length co17),(10,.int .u64 cB),(9,.slice ao11 bA.length co12),(8,.int .u64 cA),(6,zP b1 0),(5,.int .i64 0),(4,.pointer none)]) zk ?_
   exact aw.bD () (by first|rfl|(simp only [h21,Bool.not_true,Bool.not_false,Bool.true_or,Bool.false_or,Bool.true_and,Bool.false_and,Bool.or_true,Bool.or_false,Bool.and_true,Bool.and_false];done)|(simp [h21];done)) hs18
  ·refine di 51 false h21 ?_
   have h21':¬ ((cA:Int)=0):=dH h21
   refine En (aL (Dz ?_))
   refine aw.pick [48,11,10,9,8,6,5,4] (S':=[(48,.bool false),(11,.slice ao16 bB.length co17),(10,.int .u64 cB),(9,.slice ao11 bA.length co12),(8,.int .u64 cA),(6,zP b1 0),(5,.int .i64 0),(4,.pointer none)]) zk ?_
   exact aw.bD () (by first|rfl|(simp only [h21,Bool.not_true,Bool.not_false,Bool.true_or,Bool.false_or,Bool.true_and,Bool.false_and,Bool.or_true,Bool.or_false,Bool.and_true,Bool.and_false];done)|(simp [h21];done)) hs18
 intro _ w22 hs23
 refine Zt (?_)
 refine cS (t:=((cA:Int) == 0) && ((cB:Int) == 0)) (λh24=>?_) (λh24=>?_)
 ·have h24a:((cA:Int) == 0)=true:=(Bool.and_eq_true_iff.1 h24).1
  have h24a':(cA:Int)=0:=dt h24a
  have h24b:((cB:Int) == 0)=true:=(Bool.and_eq_true_iff.1 h24).2
  have h24b':(cB:Int)=0:=dt h24b
  refine En (Ls (La (Lt (Le (Ll (Ly (Dz ?_)))))))
  refine jE (v:=.pointer none) (v':=.int .i64 9) ?_
  have hs25:=(((hs23.pl 0).pl 3).pl 3).pl 3
  have hs26:=hs25.dr 3
  exact .inl ⟨rfl,za,hs26⟩
 ·refine En (Ls (La (Lt (Dz ?_))))
  refine Zi ((cB:Int)>cA) (λh27'=>?_) (λh27'=>?_)
  ·refine En (Lg [5,8] (Lu (Dz ?_)))
   refine Zv (b:=b1) (off:=3) (v:=.int .i64 1) (ti:=Tryz.t3) zk hs23 3 (cs':=#[zP d 0,.int .i64 (at_:Nat),.slice none 0 0,.int .i64 1,.bool false]) ?_
   intro w28 hs29
   refine Lo (Lu (Dz ?_))
   refine Zv (b:=b1) (off:=2) (v:=.slice ao16 bB.length co17) (ti:=Tryz.t85) zk hs29 3 (cs':=#[zP d 0,.int .i64 (at_:Nat),.slice ao16 bB.length co17,.int .i64 1,.bool false]) ?_
   intro w30 hs31
   refine Lo (Ld (Lm (Lt (Ls (La (Lt (Le (Dz ?_))))))))
   refine jE (v:=zP b1 0) (v':=.int .i64 0) ?_
   have hz9:¬ (cA=0/\cB=0):=λhh=>by rw [hh.1,hh.2] at h24;exact absurd h24 zf
   have hs32:=(((hs31.pl 0).pl 1).pl 3).pl 3
   have hs33:=hs32.dr 1
   exact .inr (.inl ⟨b1,ao16,co17,rfl,za,hs33⟩)
  ·refine En (Lg [4] (Lu (Dz ?_)))
   refine Zv (b:=b1) (off:=2) (v:=.slice ao11 bA.length co12) (ti:=Tryz.t85) zk hs23 3 (cs':=#[zP d 0,.int .i64 (at_:Nat),.slice ao11 bA.length co12,.int .i64 0,.bool false]) ?_
   intro w34 hs35
   refine Lo (Ld (Lm (Lt (Ls (La (Lt (Le (Dz ?_))))))))
   refine jE (v:=zP b1 0) (v':=.int .i64 0) ?_
   have hz9:¬ (cA=0/\cB=0):=λhh=>by rw [hh.1,hh.2] at h24;exact absurd h24 zf
   have hs36:=(((hs35.pl 0).pl 2).pl 3).pl 3
   have hs37:=hs36.dr 1
   exact .inr (.inr (⟨b1,ao11,co12,rfl,za,hs37⟩))
theorem jP {w0 w:World}{L:List aI}{cb:Nat}{d:Nat}{ao:Option Addr}{co:Nat}(at_:Nat) (wq:Nat) (b:List Int) (hbl:b.length<=1100) (hs:St w0 (ah cb #[zP d 0,.int .i64 (at_:Nat),.slice ao b.length co,.int .i64 (wq:Nat),.bool false] 197::Sl ao co 5 1 af b::L) w):Calls Tryz.prog 53 #[zP cb 0] w (aZ λrv w'=>∃ (ax:Option Addr) (cx:Nat),rv=.slice ax b.length cx/\St w0 (ah cb #[zP d 0,.int .i64 (at_:Nat),.slice ao b.length co,.int .i64 (wq:Nat),.bool false] 197::Sl ax cx 5 1 af b::L) w'):=by
 refine bp Tryz.func53 Tryz.ntmps53 ?_
 refine En (Ls (La (Lt (Ls (Ls (La (Lt (LF (Lk (Lt (Ls (Dz ?_))))))))))))
 refine bL [4] (Hl 3 0 2 hs Hz) ?_
 have hs1:=hs.pl 1
 refine aF (f:=94) (args:=#[.slice ao b.length co]) Tryz.call94 (jg b ze hs1) ?_
 rintro v5 w6 ⟨ao2,co3,rfl,hs4⟩
 refine Lo (aL (Lt (Le (Dz ?_))))
 refine bg (v:=.slice ao2 b.length co3) ?_
 have hs7:=(hs4.pl 0).pl 1
 exact⟨ao2,co3,rfl,hs7⟩
theorem vK {w0 w:World}{L:List aI}{cb:Nat}{d:Nat}{ao:Option Addr}{co:Nat}{D:Nat->aC}{nk:Nat}{g:et}(at_:Nat) (wq:Nat) (b:List Int) (cf:Nat->Int) (top:Int) (hat:at_+20<=32768) (hD:∀ i,i<20->∃ m,(D (at_+i)).toList=wd (cf i)++m) (hcf:∀ i,i<20->0<=cf i/\cf i<18446744073709551616) (hmx:∀ i,i<20->cf i<=top) (hht:∃ j,j<20/\cf j=top) (htp:0<=top/\top<9000000000000000000) (hs:St w0 (ah cb #[zP d 0,.int .i64 (at_:Nat),.slice ao b.length co,.int .i64 (wq:Nat),.bool false] 197::DK d D nk g::L) w):Calls Tryz.prog 133 #[zP cb 0] w (aZ λrv w'=>rv=.int .u64 (top+1)/\St w0 (ah cb #[zP d 0,.int .i64 (at_:Nat),.slice ao b.length co,.int .i64 (wq:Nat),.bool false] 197::DK d D nk g::L) w'):=by
 refine bp Tryz.func133 Tryz.ntmps133 ?_
 refine En (Ls (La (Lt (Ls (Ls (La (Lt (Lb (Dz ?_)))))))))
 refine aE.loop (T:=Nat×Int) (λgg=>[(0,zP cb 0),(2,.int .u64 gg.2),(6,.int .i64 (gg.1:Nat))]) (λgg w=>(gg.1<=20/\0<=gg.2/\gg.2<=top/\∀ j,j<gg.1->cf j<=gg.2)/\St w0 (ah cb #[zP d 0,.int .i64 (at_:Nat),.slice ao b.length co,.int .i64 (wq:Nat),.bool false] 197::DK d D nk g::L) w) (λgg=>20-gg.1) (0,0) [0,2,6] zk ⟨⟨za,za,za,λj hj=>absurd hj za⟩,hs⟩ ?_
 rintro⟨i,nv⟩ w1 ⟨hp0,hs2⟩
 have hp:i<=20/\0<=nv/\nv<=top/\∀ j,j<i->cf j<=nv:=hp0
 have hs3:St w0 (ah cb #[zP d 0,.int .i64 (at_:Nat),.slice ao b.length co,.int .i64 (wq:Nat),.bool false] 197::DK d D nk g::L) w1:=hs2
 refine Zn [(0,zP cb 0),(2,.int .u64 nv),(6,.int .i64 (i:Nat))] ?_
 refine En (Ls (La (Lt (Ls (Dz ?_)))))
 refine Zi (((i:Nat):Int)<20) (λh4'=>?_) (λh4'=>?_)
 ·obtain⟨mm,hmm⟩:=hD i za
  have hcr:=hcf i za
  refine En (Lk (Lt (Ls (Lb (Ls (La (Lt (Ls (Dz ?_)))))))))
  refine aE.join (T:=Nat) (E:=λjx=>[(0,zP cb 0),(2,.int .u64 nv),(4,zP jx 0),(5,.int .i64 0),(6,.int .i64 (i:Nat))]) (F:=λjx w=>St w0 (ah jx (aC.cells (D (at_+i))) 96::DK d D nk g::ah cb #[zP d 0,.int .i64 (at_:Nat),.slice ao b.length co,.int .i64 (wq:Nat),.bool false] 197::L) w) ?_ ?_
  ·refine aE.aV [0,1,3,7,15,0,32,96,224,480,0,2016,4095,8191,16383,16383,0,98303,262143] (.rd 0 (.rd 1 (.rd 2 (.rd 3 (.rd 4 (.rd 5 (.rd 6 (.rd 7 (.rd 8 (.rd 9 (.rd 10 (.rd 11 (.alt (.ef 12 (.rd 13 (.rd 14 (.rd 15 (.ef 16 (.ef 17 (.rd 18 .done))))))) (.ef 16 (.ef 12 (.rd 13 (.rd 14 (.rd 15 (.ef 17 (.rd 18 .done)))))))))))))))))))) zk zk ai zk hs3 ?_
   intro w5 hs6 hw7
   refine Zp 0 12 [(4,.gen [zP d 0]),(9,.gen [.int .i64 (at_:Nat)]),(11,.cI (.int .i64 ((at_:Nat)+(i:Nat))) (.gen []))] [(4,[.cell ⟨cb,0,none⟩ (zP d 0)]),(9,[.cell ⟨cb,1,none⟩ (.int .i64 (at_:Nat))]),(11,[.prop (Value.int .i64 (IntKind.i64.wrap ((at_:Nat)+(i:Nat)))=Value.int .i64 ((at_:Nat)+(i:Nat)))])] (ak (aG (hs6.cell 0 rfl zk) av) (ak (aG (hs6.cell 0 rfl zk) av) (ak (aB (dD za za) av) cW))) ?_
   refine ar.alt ?_ ?_
   ·have hs8:=hs6.pl 1
    refine aF Tryz.call38 (gT (at_+i) zc hs8) ?_
    rintro v10 w11 ⟨rfl,hs9⟩
    refine Lo (Dz ?_)
    refine Zr 13 3 [] ?_
    refine ar.alloc rfl rfl zk (z:=.agg (aC.cells fX)) zk hs9 (cs:=aC.cells fX) zk ?_
    intro b12 w13 hs14
    refine⟨bw (n:=[.prop (Value.int .i64 (IntKind.i64.wrap ((at_:Nat)+(i:Nat)))=Value.int .i64 ((at_:Nat)+(i:Nat))),.cell ⟨cb,1,none⟩ (.int .i64 (at_:Nat)),.cell ⟨cb,0,none⟩ (zP d 0)]) zk (aB (dD za za) (aG (hs14.cell 2 rfl zk) (aG (hs14.cell 2 rfl zk) av))),?_⟩
    refine Zv (b:=b12) (off:=0) (v:=.agg (aC.cells (D (at_+i)))) (ti:=Tryz.t96) zk hs14 0 (cs':=aC.cells (D (at_+i))) ?_
    intro w15 hs16
    refine Lo (Dz ?_)
    refine Zr 18 1 [] ?_
    refine Zd (?_)
    refine aw.pick [0,2,4,5,6] (S':=[(0,zP cb 0),(2,.int .u64 nv),(4,zP b12 0),(5,.int .i64 0),(6,.int .i64 (i:Nat))]) zk ?_
    exact aw.bD b12 rfl hs16
   refine ar.alloc rfl rfl zk (z:=.agg (aC.cells fX)) zk hs6 (cs:=aC.cells fX) zk ?_
   intro b17 w18 hs19
   refine⟨bw (n:=[.prop (Value.int .i64 (IntKind.i64.wrap ((at_:Nat)+(i:Nat)))=Value.int .i64 ((at_:Nat)+(i:Nat))),.cell ⟨cb,1,none⟩ (.int .i64 (at_:Nat)),.cell ⟨cb,0,none⟩ (zP d 0)]) zk (aB (dD za za) (aG (hs19.cell 1 rfl zk) (aG (hs19.cell 1 rfl zk) av))),?_⟩
   have hs20:=hs19.pl 2
   refine aF Tryz.call38 (gT (at_+i) zc hs20) ?_
   rintro v22 w23 ⟨rfl,hs21⟩
   refine Lo (Dz ?_)
   refine Zr 13 3 [] ?_
   refine Zv (b:=b17) (off:=0) (v:=.agg (aC.cells (D (at_+i)))) (ti:=Tryz.t96) zk hs21 1 (cs':=aC.cells (D (at_+i))) ?_
   intro w24 hs25
   refine Lo (Dz ?_)
   refine Zr 18 1 [] ?_
   refine Zd (?_)
   have hs26:=((hs25.pl 2).pl 1).pl 2
   refine aw.pick [0,2,4,5,6] (S':=[(0,zP cb 0),(2,.int .u64 nv),(4,zP b17 0),(5,.int .i64 0),(6,.int .i64 (i:Nat))]) zk ?_
   exact aw.bD b17 rfl hs26
  rintro b27 w28 hs29
  have hs30:St w0 (ah b27 (aC.cells (D (at_+i))) 96::DK d D nk g::ah cb #[zP d 0,.int .i64 (at_:Nat),.slice ao b.length co,.int .i64 (wq:Nat),.bool false] 197::L) w28:=hs29
  refine aw.cq (S':=[(0,zP cb 0),(2,.int .u64 nv),(4,zP b27 0),(5,.int .i64 0),(6,.int .i64 (i:Nat))]) rfl ?_
  refine En (Lt (Ls (La (Lt (LT (Dz ?_))))))
  refine bL [2] (du 1 0 0 128 (aC.cells (D (at_+i))) hs30 Hz) ?_
  refine aF Tryz.call129 (hU (D (at_+i)) (cf i) mm hmm hcr hs30) ?_
  rintro v32 w33 ⟨rfl,hs31⟩
  refine z4 (Hg 3 (.cI (.int .u64 (max nv (cf i))) (.gen [])) [.prop (Value.int .u64 (if (cf i)>nv then (cf i) else nv)=Value.int .u64 (max nv (cf i)))] (aB wQ av) Hz) ?_
  refine Zm (Zt (?_))
  refine bj (cH 0 ((i:Nat)+1) Hz) ?_
  have hs34:=((hs31.pl 1).pl 2).pl 2
  have hs35:=hs34.dr 1
  exact aw.back (i+1,max nv (cf i)) [0,2,6] zk (by show 20-(i+1)<20-i;omega) ⟨⟨za,za,by have:=hmx i za;omega,λj hj=>by rcases Nat.lt_succ_iff_lt_or_eq.1 hj with h|h;exact(by have:=hp.2.2.2 j h;omega);subst h;omega⟩,hs35⟩
 ·obtain rfl:20=i:=za
  have hnt:nv=top:=by obtain⟨j,hj,hh⟩:=hht;have:=hp.2.2.2 j hj;omega
  refine Zx (aw.da (aw.dc (aw.jR (Zt (Zs (?_))))))
  refine bj (qU 1 (nv+1) Hz) ?_
  refine Zt (Ze (?_))
  refine bg (v:=.int .u64 (nv+1)) ?_
  exact⟨(by rw [hnt]),hs3⟩
theorem cN.wd {D:Nat->aC}{s:Nat}{c:Int}{b:List Int}(h:cN D s c b) (hb:b.length<=1100){i:Nat}(hi:i<10):∃ m,(D (s+i)).toList=wd c++m:=by
 rw [h i hi,hJ (eN hb hi)]
 exact⟨_,rfl⟩
def AZ (w:Nat) (c c':Int) (i:Nat):Int:=if (i<10)=(w=0) then c else c'
theorem yC {D:Nat->aC}{s w:Nat}{c c':Int}{b b':List Int}(hw:w<=1) (h:cN D (s+w*10) c b) (h':cN D (s+(1-w)*10) c' b') (hb:b.length<=1100) (hb':b'.length<=1100):∀ i,i<20->∃ m,(D (s+i)).toList=Proofs.YtdaohdehpmgfdaaGreatDoor.wd (AZ w c c' i)++m:=by
 intro i hi
 rcases(by omega:w=0\/w=1) with rfl|rfl
 ·by_cases h1:i<10
  ·rw [AZ,if_pos (by simp [h1])]
   exact h.wd hb h1
  ·rw [AZ,if_neg (by simp [h1])]
   obtain⟨m,hm⟩:=h'.wd hb' (i:=i-10) za
   rw [show s+(1-0)*10+(i-10)=s+i by omega] at hm
   exact⟨m,hm⟩
 ·by_cases h1:i<10
  ·rw [AZ,if_neg (by simp [h1])]
   exact h'.wd hb' h1
  ·rw [AZ,if_pos (by simp [h1])]
   obtain⟨m,hm⟩:=h.wd hb (i:=i-10) za
   rw [show s+1*10+(i-10)=s+i by omega] at hm
   exact⟨m,hm⟩
theorem tw {w0 w:World}{L:List aI}{cb:Nat}{d:Nat}{ao:Option Addr}{co:Nat}{D:Nat->aC}{nk:Nat}{g:et}(at_:Nat) (wq:Nat) (b:List Int) (c:Int) (cx:Int) (bq:List Int) (bx:List Int) (hat:at_+20<=32768) (hw:wq<=1) (hct:(0<=cx/\cx<c/\c<9000000000000000000)) (hbl2:bq.length<=1100) (hblx:bx.length<=1100) (hD:cN D (at_+wq*10) c bq) (hD2:cN D (at_+(1-wq)*10) cx bx) (hs:St w0 (ah cb #[zP d 0,.int .i64 (at_:Nat),.slice ao b.length co,.int .i64 (wq:Nat),.bool false] 197::DK d D nk g::L) w):Calls Tryz.prog 133 #[zP cb 0] w (aZ λrv w'=>rv=.int .u64 (c+1)/\St w0 (ah cb #[zP d 0,.int .i64 (at_:Nat),.slice ao b.length co,.int .i64 (wq:Nat),.bool false] 197::DK d D nk g::L) w'):=by
 have key:∀ i,AZ wq c cx i=c\/AZ wq c cx i=cx:=λi=>by unfold AZ;split<;>simp
 exact vK at_ wq b (AZ wq c cx) c hat (yC hw hD hD2 hbl2 hblx) (λi _=>by rcases key i with h|h<;>rw [h]<;>omega) (λi _=>by rcases key i with h|h<;>rw [h]<;>omega)
  (by rcases(by omega:wq=0\/wq=1) with rfl|rfl;exact⟨0,za,by simp [AZ]⟩;exact⟨10,za,by simp [AZ]⟩) za hs
theorem yD {w0 w:World}{L:List aI}{cb:Nat}{d:Nat}{ao:Option Addr}{co:Nat}{ad:Option Addr}{cy:Nat}{D:Nat->aC}{nk:Nat}{g:et}(at_:Nat) (wq:Nat) (bo:List Int) (c:Int) (cx:Int) (bq:List Int) (bx:List Int) (b:List Int) (hat:at_+20<=32768) (hw:wq<=1) (hct:(0<=cx/\cx<c/\c<9000000000000000000)) (hbl2:bq.length<=1100) (hblx:bx.length<=1100) (hD:cN D (at_+wq*10) c bq) (hD2:cN D (at_+(1-wq)*10) cx bx) (hbl:b.length<=1100) (hsm:se ad cy) (hk:nk<800) (hr:∀ w,St w0 L w->ag w ad b.length 1 (λk=>af (b.getD k 0))) (hs:St w0 (ah cb #[zP d 0,.int .i64 (at_:Nat),.slice ao bo.length co,.int .i64 (wq:Nat),.bool false] 197::DK d D nk g::L) w):Calls Tryz.prog 98 #[zP cb 0,.slice ad b.length cy] w (aZ λrv w'=>∃ (ax:Option Addr) (cx2:Nat) (gd2:et),rv=.int .i64 0/\St w0 (ah cb #[zP d 0,.int .i64 (at_:Nat),.slice ax b.length cx2,.int .i64 ((1-wq):Nat),.bool false] 197::Sl ax cx2 5 1 af b::DK d (fo D (at_+((1-wq)*10)) (c+1) b 10) 0 gd2::L) w'):=by
 refine bp Tryz.func98 Tryz.ntmps98 ?_
 refine Zs (?_)
 have hnn:ad=none->cy=0:=hsm.nn
 refine En (La (Lt (Ls (Lb (Ls (La (Lt (LF (Ls (La (Lt (Dz ?_))))))))))))
 refine Zi (((b.length:Nat):Int)>1100) (λh1'=>?_) (λh1'=>?_)
 ·exfalso;omega
 ·refine Zs (?_)
  refine bj (Hl 3 0 4 hs Hz) ?_
  refine En (Lt (LF (Lk (Lm (Lt (Ls (Dz ?_)))))))
  refine bj (Hl 3 0 3 hs (Hg 4 (.cI (.int .i64 (1-wq:Nat)) (.gen [])) [.prop (Value.int .i64 (IntKind.i64.wrap (1-(wq:Nat)))=Value.int .i64 (1-wq:Nat))] (aB (de za za za) av) Hz)) ?_
  refine Zt (Zs (?_))
  refine aE.aV [0,1,3,7,0,0,32,0,255,511] (.rd 0 (.rd 1 (.rd 2 (.rd 3 (.rd 4 (.rd 5 (.rd 7 (.ef 6 (.ef 8 (.rd 9 .done)))))))))) zk zk ai zk hs ?_
  intro w2 hs3 hw4
  refine Zj (du 3 0 0 2 (#[zP d 0,.int .i64 (at_:Nat)]) hs3 Hz) ?_
  refine aF Tryz.call133 (tw at_ wq bo c cx bq bx zc zc zD zb zb zD zD hs3) ?_
  rintro v6 w7 ⟨rfl,hs5⟩
  refine⟨bw (n:=[.prop (Array.size (#[zP d 0,.int .i64 (at_:Nat)]:Array Value)=2),.cells ⟨cb,0,none⟩ #[zP d 0,.int .i64 (at_:Nat)]]) zk (aB zk (dq (hs5.cells 0 0 rfl zk) av)),?_⟩
  have hs8:=hs5.pl 1
  refine aF Tryz.call86 (jw at_ (1-wq) (c+1) b zc zc zc zb hnn zc (λw h=>hr _ (h.drop 1)) hs8) ?_
  rintro v11 w12 ⟨gd9,rfl,hs10⟩
  refine Lo (aL (Lt (Ls (Ls (La (Lt (LT (Dz ?_))))))))
  refine bL [5] (Hl 4 1 0 hs10 Hz) ?_
  refine aF Tryz.call87 (kv zc hs10) ?_
  rintro v15 w16 ⟨gd13,rfl,hs14⟩
  refine Lo (aL (Lt (Ls (Ls (Lg [5] (Lu (Dz ?_)))))))
  refine Zv (b:=cb) (off:=4) (v:=.bool false) (ti:=Tryz.t4) zk hs14 1 (cs':=#[zP d 0,.int .i64 (at_:Nat),.slice ao bo.length co,.int .i64 (wq:Nat),.bool false]) ?_
  intro w17 hs18
  refine Lo (Ld (Lt (Ls (Dz ?_))))
  refine bj (Hl 3 1 4 hs18 Hz) ?_
  refine En (Lt (LT (Lg [4,7,10] (Lu (Dz ?_)))))
  refine aF (f:=94) (args:=#[.slice ad b.length cy]) Tryz.call94 (fv b zb hsm (λw h=>hr _ (h.drop 2)) hs18) ?_
  rintro v22 w23 ⟨ao19,co20,rfl,hs21⟩
  refine Lo (Lu (Dz ?_))
  refine Zv (b:=cb) (off:=3) (v:=.int .i64 (1-wq:Nat)) (ti:=Tryz.t3) zk hs21 2 (cs':=#[zP d 0,.int .i64 (at_:Nat),.slice ao bo.length co,.int .i64 (1-wq:Nat),.bool false]) ?_
  intro w24 hs25
  refine Lo (Lu (Dz ?_))
  refine Zv (b:=cb) (off:=2) (v:=.slice ao19 b.length co20) (ti:=Tryz.t85) zk hs25 2 (cs':=#[zP d 0,.int .i64 (at_:Nat),.slice ao19 b.length co20,.int .i64 (1-wq:Nat),.bool false]) ?_
  intro w26 hs27
  refine Lo (Ld (Lt (Ls (La (Lt (Le (Dz ?_)))))))
  refine bg (v:=.int .i64 0) ?_
  have hs28:=((hs27.pl 1).pl 1).pl 2
  exact⟨ao19,co20,gd13,rfl,hs28⟩
def bz (D:Nat->aC) (at_ wq:Nat) (c:Int) (b:List Int):Prop :=
 (wq<=1/\1<c/\c<8000000000000000000/\b.length<=1100/\(∀ z∈b,0<=z/\z<256)/\cN D (at_+wq*10) c b) /\
  ∃ (cx:Int) (bx:List Int),(0<=cx/\cx<c/\c<9000000000000000000)/\bx.length<=1100/\(∀ z∈bx,0<=z/\z<256)/\cN D (at_+(1-wq)*10) cx bx
theorem cN.fo {D:Nat->aC}{s:Nat}{c:Int}{b:List Int}:cN (fo D s c b 10) s c b:=λi hi=>by
 unfold Proofs.YtdaohdehpmgfdaaGreatDoor.fo
 rw [if_pos za,Nat.add_sub_cancel_left]
theorem fL {D:Nat->aC}{s:Nat}{c:Int}{b:List Int}{a:Nat}(h:a<s\/s+10<=a):fo D s c b 10 a=D a:=if_neg za
theorem cN.congr {D D':Nat->aC}{s:Nat}{c:Int}{b:List Int}(h:cN D s c b) (he:∀ a,s<=a->a<s+10->D' a=D a):cN D' s c b:=λi hi=>(he _ za za).trans (h i hi)
theorem bz.congr {D D':Nat->aC}{at_ wq:Nat}{c:Int}{b:List Int}(h:bz D at_ wq c b) (he:∀ a,at_<=a->a<at_+20->D' a=D a):bz D' at_ wq c b:=by
 obtain⟨⟨h1,h2,h3,h4,h5,h6⟩,cx,bx,k1,k2,k3,k4⟩:=h
 exact⟨⟨h1,h2,h3,h4,h5,h6.congr λa h1 h2=>he a za za⟩,cx,bx,k1,k2,k3,k4.congr λa h1 h2=>he a za za⟩
theorem bz.put {D:Nat->aC}{at_ wq:Nat}{c:Int}{b bn:List Int}(h:bz D at_ wq c b) (hc:c+1<8000000000000000000) (hl:bn.length<=1100) (hb:∀ z∈bn,0<=z/\z<256):bz (fo D (at_+((1-wq)*10)) (c+1) bn 10) at_ (1-wq) (c+1) bn:=by
 obtain⟨⟨h1,h2,h3,h4,h5,h6⟩,-⟩:=h
 refine⟨⟨za,za,hc,hl,hb,cN.fo⟩,c,b,⟨za,za,za⟩,h4,h5,?_⟩
 rw [show 1-(1-wq)=wq by omega]
 exact h6.congr λa h7 h8=>fL za
theorem bz.fresh {D:Nat->aC}{at_:Nat}:bz (fo (fo D (at_+(0*10)) 2 [] 10) (at_+(1*10)) 1 [] 10) at_ 0 2 [] :=
 ⟨⟨za,za,za,zf,λz hz=>(by cases hz),cN.congr cN.fo λa h1 h2=>fL za⟩,1,[],⟨za,za,za⟩,zf,λz hz=>(by cases hz),cN.fo⟩
theorem EA:∀ i,i<10->fX=fD (mZ 0 [] i)
 | 0,_=>by kernel_rfl
 | 1,_=>by kernel_rfl
 | 2,_=>by kernel_rfl
 | 3,_=>by kernel_rfl
 | 4,_=>by kernel_rfl
 | 5,_=>by kernel_rfl
 | 6,_=>by kernel_rfl
 | 7,_=>by kernel_rfl
 | 8,_=>by kernel_rfl
 | 9,_=>by kernel_rfl
 | n+10,h=>absurd h za
theorem cN.zero {D:Nat->aC}{s:Nat}(h:∀ i,i<10->D (s+i)=fX):cN D s 0 []:=λi hi=>(h i hi).trans (EA i hi)
theorem iM {w0 w:World}{L:List aI}{d:Nat}{D:Nat->aC}{nk:Nat}{g:et}(at_:Nat) (wq:Nat) (c:Int) (b:List Int) (hat:at_+20<=32768) (hci:bz D at_ wq c b) (hs:St w0 (DK d D nk g::L) w):Calls Tryz.prog 52 #[zP d 0,.int .i64 (at_:Nat)] w (aZ λrv w'=>∃ (cb:Nat) (ao:Option Addr) (co:Nat),rv=.tuple #[zP cb 0,.int .i64 0]/\St w0 (ah cb #[zP d 0,.int .i64 (at_:Nat),.slice ao b.length co,.int .i64 (wq:Nat),.bool false] 197::Sl ao co 5 1 af b::DK d D nk g::L) w'):=by
 obtain⟨⟨h1,h2,h3,h4,h5,h6⟩,cx,bx,k1,k2,k3,k4⟩:=hci
 rcases(by omega:wq=0\/wq=1) with rfl|rfl
 ·refine Calls.ret (jz at_ c b cx bx hat ⟨za,za⟩ h4 h5 h6 ⟨za,za⟩ k2 k3 k4 hs) ?_
  rintro v w2 (⟨-,q,-⟩|⟨cb,ao,co,-,q,-⟩|⟨cb,ao,co,rfl,q,h⟩)
  ·omega
  ·omega
  ·exact⟨cb,ao,co,rfl,h⟩
 ·refine Calls.ret (jz at_ cx bx c b hat ⟨za,za⟩ k2 k3 k4 ⟨za,za⟩ h4 h5 h6 hs) ?_
  rintro v w2 (⟨-,q,-⟩|⟨cb,ao,co,rfl,q,h⟩|⟨cb,ao,co,-,q,-⟩)
  ·omega
  ·exact⟨cb,ao,co,rfl,h⟩
  ·omega
theorem tz {w0 w:World}{L:List aI}{d:Nat}{D:Nat->aC}{nk:Nat}{g:et}(at_:Nat) (hat:at_+20<=32768) (hD0:∀ i,i<10->D (at_+0*10+i)=fX) (hD1:∀ i,i<10->D (at_+1*10+i)=fX) (hs:St w0 (DK d D nk g::L) w):Calls Tryz.prog 52 #[zP d 0,.int .i64 (at_:Nat)] w (aZ λrv w'=>rv=.tuple #[.pointer none,.int .i64 9]/\St w0 (DK d D nk g::L) w'):=by
 refine Calls.ret (jz at_ 0 [] 0 [] hat ⟨za,za⟩ zf (λz hz=>by cases hz) (cN.zero hD0) ⟨za,za⟩ zf (λz hz=>by cases hz) (cN.zero hD1) hs) ?_
 rintro v w2 (⟨rfl,-,h⟩|⟨cb,ao,co,-,q,-⟩|⟨cb,ao,co,-,q,-⟩)
 ·exact⟨rfl,h⟩
 ·omega
 ·omega
theorem oK {w0 w:World}{L:List aI}{cb:Nat}{d:Nat}{ao:Option Addr}{co:Nat}{ad:Option Addr}{cy:Nat}{D:Nat->aC}{nk:Nat}{g:et}(at_:Nat) (wq:Nat) (bo:List Int) (c:Int) (b:List Int) (hat:at_+20<=32768) (hci:bz D at_ wq c bo) (hcc:c+1<8000000000000000000) (hbl:b.length<=1100) (hbb:∀ z∈b,0<=z/\z<256) (hsm:se ad cy) (hk:nk<800) (hr:∀ w,St w0 L w->ag w ad b.length 1 (λk=>af (b.getD k 0))) (hs:St w0 (ah cb #[zP d 0,.int .i64 (at_:Nat),.slice ao bo.length co,.int .i64 (wq:Nat),.bool false] 197::DK d D nk g::L) w):Calls Tryz.prog 98 #[zP cb 0,.slice ad b.length cy] w (aZ λrv w'=>∃ (ax:Option Addr) (cx2:Nat) (dq2:Nat->aC) (gd2:et),rv=.int .i64 0/\bz dq2 at_ (1-wq) (c+1) b/\(∀ a,(a<at_\/at_+20<=a)->dq2 a=D a)/\St w0 (ah cb #[zP d 0,.int .i64 (at_:Nat),.slice ax b.length cx2,.int .i64 ((1-wq):Nat),.bool false] 197::Sl ax cx2 5 1 af b::DK d dq2 0 gd2::L) w'):=by
 obtain⟨⟨h1,h2,h3,h4,h5,h6⟩,cx,bx,k1,k2,k3,k4⟩:=id hci
 refine Calls.ret (yD at_ wq bo c cx bo bx b hat h1 k1 h4 k2 h6 k4 hbl hsm hk hr hs) ?_
 rintro v w2 ⟨ax,cx2,gd2,rfl,h⟩
 exact⟨ax,cx2,_,gd2,rfl,hci.put hcc hbl hbb,λa ha=>fL za,h⟩
theorem rK {w0 w:World}{L:List aI}{d:Nat}{D:Nat->aC}{nk:Nat}{g:et}(at_:Nat) (hat:at_+20<=32768) (hk:nk<800) (hs:St w0 (DK d D nk g::L) w):Calls Tryz.prog 13 #[zP d 0,.int .i64 (at_:Nat)] w (aZ λrv w'=>∃ (gd2:et),rv=.int .i64 0/\St w0 (DK d (fo (fo D (at_+(0*10)) 2 [] 10) (at_+(1*10)) 1 [] 10) 0 gd2::L) w'):=by
 refine bp Tryz.func13 Tryz.ntmps13 ?_
 refine En (Ls (La (Lt (Ls (Lg [2] (Lu (Dz ?_)))))))
 refine aF Tryz.call39 (lB at_ zc zc hs) ?_
 rintro v3 w4 ⟨gd1,rfl,hs2⟩
 refine Lo (aL (Lt (Le (Dz ?_))))
 refine bg (v:=.int .i64 0) ?_
 exact⟨gd1,rfl,hs2⟩
def dy (n:Nat) (b:List Int):List Int:=if n=0 then [] else wd (n:Nat)++b
theorem xx {n:Nat}(h:0<n) (b:List Int):dy n b=wd (n:Nat)++b:=if_neg za
theorem vL {w0 w:World}{L:List aI}{d:Nat}{D:Nat->aC}{nk:Nat}{g:et}(at_:Nat) (wq:Nat) (c:Int) (i:Int) (hat:at_+20<=32768) (hi:1<=i) (him:i<=11) (hci:bz D at_ wq c ([]:List Int)) (hTab:∀ w,St w0 L w->cQ w) (hs:St w0 (DK d D nk g::L) w):Calls Tryz.prog 18 #[.int .i64 i,zP d 0,.int .i64 (at_:Nat)] w (aZ λrv w'=>∃ (ub:Nat) (cb:Nat) (ao:Option Addr) (co:Nat),rv=.tuple #[zP ub 0,.int .i64 0]/\St w0 (ah ub #[zP cb 0,.int .i64 i,.int .u64 0,.slice none 0 0] 126::ah cb #[zP d 0,.int .i64 (at_:Nat),.slice ao (([]:List Int).length) co,.int .i64 (wq:Nat),.bool false] 197::DK d D nk g::L) w'):=by
 refine bp Tryz.func18 Tryz.ntmps18 ?_
 refine En (Ls (La (Lt (Ls (Lb (Ls (La (Lt (LF (Ls (Lg [1] (Lu (Dz ?_)))))))))))))
 refine aF Tryz.call51 (jN i zD zD (λw h=>hTab w (h.drop 1)) hs) ?_
 rintro v2 w3 ⟨rfl,hs1⟩
 refine Lo (aL (Lt (LF (Lk (Lm (Lt (Ls (Lg [2] (Lu (Dz ?_))))))))))
 refine aF Tryz.call52 (iM at_ wq c ([]:List Int) zc zD hs1) ?_
 rintro v8 w9 ⟨cb4,ao5,co6,rfl,hs7⟩
 refine Lo (aL (Lt (Ls (Ls (La (Lt (LF (Lk (Lt (Ls (Lg [3] (Lu (Dz ?_)))))))))))))
 refine ar.box rfl rfl zk (v:=.agg #[zP cb4 0,.int .i64 i,.int .u64 0,.slice none 0 0]) zk hs7 (cs:=#[zP cb4 0,.int .i64 i,.int .u64 0,.slice none 0 0]) zk ?_
 intro b10 w11 hs12
 refine Lo (aL (Lt (Ls (Dz ?_))))
 refine bL [4] (Hl 3 0 0 hs12 Hz) ?_
 have hs13:=(hs12.pl 2).pl 2
 refine aF Tryz.call53 (jP at_ wq ([]:List Int) zb hs13) ?_
 rintro v17 w18 ⟨ax14,cx15,rfl,hs16⟩
 refine Lo (aL (Lt (Ls (Ls (La (Lt (Dz ?_)))))))
 refine cS (t:=((([]:List Int).length:Nat):Int) == 0) (λh19=>?_) (λh19=>?_)
 ·have h19':((([]:List Int).length:Nat):Int)=0:=dt h19
  refine En (Ls (La (Lt (Le (Ly (Dz ?_))))))
  refine jE (v:=zP b10 0) (v':=.int .i64 0) ?_
  have hs20:=(((hs16.pl 3).pl 1).pl 3).pl 3
  have hs21:=hs20.dr 1
  exact⟨b10,cb4,ao5,co6,rfl,hs21⟩
 ·have h19':¬ (((([]:List Int).length:Nat):Int)=0):=dH h19
  exfalso;simp only [List.length_append,aP,List.length_nil] at h19';omega
theorem vM {w0 w:World}{L:List aI}{d:Nat}{D:Nat->aC}{nk:Nat}{g:et}(at_:Nat) (wq:Nat) (c:Int) (i:Int) (n:Nat) (b:List Int) (hat:at_+20<=32768) (hi:1<=i) (him:i<=11) (hn1:1<=n) (hn2:n<=65536) (hbl:b.length<=1024) (hbb:∀ z∈b,0<=z/\z<256) (hci:bz D at_ wq c (wd (n:Nat)++b)) (hTab:∀ w,St w0 L w->cQ w) (hs:St w0 (DK d D nk g::L) w):Calls Tryz.prog 18 #[.int .i64 i,zP d 0,.int .i64 (at_:Nat)] w (aZ λrv w'=>∃ (ub:Nat) (cb:Nat) (ao:Option Addr) (co:Nat) (ab:Option Addr) (bc:Nat),rv=.tuple #[zP ub 0,.int .i64 0]/\St w0 (ah ub #[zP cb 0,.int .i64 i,.int .u64 (n:Nat),.slice ab b.length bc] 126::ah cb #[zP d 0,.int .i64 (at_:Nat),.slice ao ((wd (n:Nat)++b).length) co,.int .i64 (wq:Nat),.bool false] 197::Sl ab bc 5 1 af b::DK d D nk g::L) w'):=by
 refine bp Tryz.func18 Tryz.ntmps18 ?_
 refine En (Ls (La (Lt (Ls (Lb (Ls (La (Lt (LF (Ls (Lg [1] (Lu (Dz ?_)))))))))))))
 refine aF Tryz.call51 (jN i zD zD (λw h=>hTab w (h.drop 1)) hs) ?_
 rintro v2 w3 ⟨rfl,hs1⟩
 refine Lo (aL (Lt (LF (Lk (Lm (Lt (Ls (Lg [2] (Lu (Dz ?_))))))))))
 refine aF Tryz.call52 (iM at_ wq c (wd (n:Nat)++b) zc zD hs1) ?_
 rintro v8 w9 ⟨cb4,ao5,co6,rfl,hs7⟩
 refine Lo (aL (Lt (Ls (Ls (La (Lt (LF (Lk (Lt (Ls (Lg [3] (Lu (Dz ?_)))))))))))))
 refine ar.box rfl rfl zk (v:=.agg #[zP cb4 0,.int .i64 i,.int .u64 0,.slice none 0 0]) zk hs7 (cs:=#[zP cb4 0,.int .i64 i,.int .u64 0,.slice none 0 0]) zk ?_
 intro b10 w11 hs12
 refine Lo (aL (Lt (Ls (Dz ?_))))
 refine bL [4] (Hl 3 0 0 hs12 Hz) ?_
 have hs13:=(hs12.pl 2).pl 2
 refine aF Tryz.call53 (jP at_ wq (wd (n:Nat)++b) zb hs13) ?_
 rintro v17 w18 ⟨ax14,cx15,rfl,hs16⟩
 refine Lo (aL (Lt (Ls (Ls (La (Lt (Dz ?_)))))))
 refine cS (t:=(((wd (n:Nat)++b).length:Nat):Int) == 0) (λh19=>?_) (λh19=>?_)
 ·have h19':(((wd (n:Nat)++b).length:Nat):Int)=0:=dt h19
  exfalso;simp only [List.length_append,aP,List.length_nil] at h19';omega
 ·have h19':¬ ((((wd (n:Nat)++b).length:Nat):Int)=0):=dH h19
  refine En (Lk (Lt (Ls (Lg [1] (Lu (Dz ?_))))))
  refine aF (f:=54) (args:=#[.slice ax14 ((wd (n:Nat)++b).length) cx15]) Tryz.call54 (df (wd (n:Nat)++b) zb (dQ hs16 1 rfl) (λw h=>h.rows 1 rfl aj.size _) hs16) ?_
  rintro v24 w25 ⟨cc20,ao21,co22,rfl,hs23⟩
  have hq26:aX (Sl ao21 co22 5 1 af (wd (n:Nat)++b)) ao21 (wd (n:Nat)++b) co22:=aX.new hs23 (j:=1) rfl (fE.app (eC _) hbb) (by simp only [List.length_append,aP];omega)
  refine Lo (aL (Lt (Ls (Lg [2,5] (Lu (Dz ?_))))))
  refine aF Tryz.call55 (fc (Sl ao21 co22 5 1 af (wd (n:Nat)++b)) (wd (n:Nat)++b) b (n:Nat) zp zc (λw h=>h.at_ 0 rfl) hq26 hs23) ?_
  rintro v31 w32 ⟨az27,cz28,rfl,hq229,hs30⟩
  refine Lo (Lu (Dz ?_))
  refine Zv (b:=b10) (off:=2) (v:=.int .u64 (n:Nat)) (ti:=Tryz.t31) zk hs30 4 (cs':=#[zP cb4 0,.int .i64 i,.int .u64 (n:Nat),.slice none 0 0]) ?_
  intro w33 hs34
  refine Lo (Ld (Lt (Ls (Lg [3,4,7] (Lu (Dz ?_))))))
  refine aF (f:=57) (args:=#[zP cc20 0]) Tryz.call57 (gx b false hs34) ?_
  rintro v36 w37 ⟨rfl,hs35⟩
  refine Lo (Dz ?_)
  refine aF Tryz.call56 (eT (Sl ao21 co22 5 1 af (wd (n:Nat)++b)) b b.length b ([]:List Int) zp rfl (λw h=>h.at_ 0 rfl) hq229 hs35) ?_
  rintro v44 w45 ⟨ao38,co39,az40,cz41,rfl,hq242,hs43⟩
  refine Lo (Lu (Dz ?_))
  refine Zv (b:=b10) (off:=3) (v:=.slice ao38 b.length co39) (ti:=Tryz.t85) zk hs43 5 (cs':=#[zP cb4 0,.int .i64 i,.int .u64 (n:Nat),.slice ao38 b.length co39]) ?_
  intro w46 hs47
  refine Lo (Ld (Lt (Ls (Ls (Lg [1,8] (Lu (Dz ?_)))))))
  have hs48:=hs47.pl 1
  refine aF Tryz.call58 (mL ([]:List Int) hs48) ?_
  rintro v50 w51 ⟨rfl,hs49⟩
  refine Eb (Hl 7 5 2 hs49 Hz) ?_
  refine aF Tryz.call59 (qt (n:Nat) zc zc hs49) ?_
  rintro v53 w54 ⟨rfl,hs52⟩
  refine z4 (Hl 15 5 3 hs52 Hz) ?_
  refine Zt (?_)
  refine Zi (((b.length:Nat):Int)>1024) (λh55'=>?_) (λh55'=>?_)
  ·exfalso;omega
  ·refine En (Lk (Lt (Ls (La (Lt (Le (Dz ?_)))))))
   refine jE (v:=zP b10 0) (v':=.int .i64 0) ?_
   have hs56:=((((((hs52.pl 6).pl 2).pl 4).pl 6).pl 6).pl 6).pl 6
   have hs57:=hs56.dr 3
   exact⟨b10,cb4,ao5,co6,ao38,co39,rfl,hs57⟩
theorem qD {w0 w:World}{L:List aI}{d:Nat}{D:Nat->aC}{nk:Nat}{g:et}(at_:Nat) (wq:Nat) (c:Int) (i:Int) (n:Nat) (b:List Int) (hat:at_+20<=32768) (hi:1<=i) (him:i<=11) (hn0:n=0->b=[]) (hn2:n<=65536) (hbl:b.length<=1024) (hbb:∀ z∈b,0<=z/\z<256) (hci:bz D at_ wq c (dy n b)) (hTab:∀ w,St w0 L w->cQ w) (hs:St w0 (DK d D nk g::L) w):Calls Tryz.prog 18 #[.int .i64 i,zP d 0,.int .i64 (at_:Nat)] w (aZ λrv w'=>∃ (ub:Nat) (cb:Nat) (ao:Option Addr) (co:Nat) (ab:Option Addr) (bc:Nat),rv=.tuple #[zP ub 0,.int .i64 0]/\St w0 (ah ub #[zP cb 0,.int .i64 i,.int .u64 (n:Nat),.slice ab b.length bc] 126::ah cb #[zP d 0,.int .i64 (at_:Nat),.slice ao ((dy n b).length) co,.int .i64 (wq:Nat),.bool false] 197::Sl ab bc 5 1 af b::DK d D nk g::L) w'):=by
 rcases Nat.eq_zero_or_pos n with rfl|h0
 ·obtain rfl:=hn0 rfl
  refine Calls.ret (vL at_ wq c i hat hi him hci hTab hs) ?_
  rintro v w2 ⟨ub,cb,ao,co,rfl,h⟩
  exact⟨ub,cb,ao,co,none,0,rfl,(St.bW h 5 1 af).perm (List.perm_cons_append_cons (l₁:=[_,_]) _ (List.Perm.refl _))⟩
 ·rw [xx h0] at hci
  rw [xx h0]
  exact vM at_ wq c i n b hat hi him h0 hn2 hbl hbb hci hTab hs
theorem vN {w0 w:World}{L:List aI}{d:Nat}{D:Nat->aC}{nk:Nat}{g:et}(at_:Nat) (wq:Nat) (c:Int) (i:Int) (hat:at_+20<=32768) (hi:1<=i) (him:i<=11) (hZ:∀ a,at_<=a->a<at_+20->D a=fX) (hTab:∀ w,St w0 L w->cQ w) (hs:St w0 (DK d D nk g::L) w):Calls Tryz.prog 18 #[.int .i64 i,zP d 0,.int .i64 (at_:Nat)] w (aZ λrv w'=>rv=.tuple #[.pointer none,.int .i64 9]/\St w0 (DK d D nk g::L) w'):=by
 refine bp Tryz.func18 Tryz.ntmps18 ?_
 refine En (Ls (La (Lt (Ls (Lb (Ls (La (Lt (LF (Ls (Lg [1] (Lu (Dz ?_)))))))))))))
 refine aF Tryz.call51 (jN i zD zD (λw h=>hTab w (h.drop 1)) hs) ?_
 rintro v2 w3 ⟨rfl,hs1⟩
 refine Lo (aL (Lt (LF (Lk (Lm (Lt (Ls (Lg [2] (Lu (Dz ?_))))))))))
 refine aF Tryz.call52 (tz at_ zc (λk hk=>by first|exact hZ _ za za) (λk hk=>by first|exact hZ _ za za) hs1) ?_
 rintro v5 w6 ⟨rfl,hs4⟩
 refine Lo (aL (Lt (Ls (Ls (La (Lt (LT (Ls (La (Lt (Le (Ly (Dz ?_)))))))))))))
 refine jE (v:=.pointer none) (v':=.int .i64 9) ?_
 exact⟨rfl,hs4⟩
end Go.Proofs.YtdaohdehpmgfdaaGreatDoor
