/-
  Several texts in one: RsB, ShaL, RsP, RsC, RsD, RsE, RsF, RsG, ApA, ApC, ApH, ApD, ApI, ApE, ApF, ApG, ApJ, ApK, LedA, LedB.
-/
import Derived.Test.YtkmhmeldgfpfeaaGreatDoorSxT
import Derived.Test.YtkmhmeldgfpfeaaGreatDoorGaB
import Derived.Test.YtkmhmeldgfpfeaaGreatDoorGaA
import Derived.Test.YtkmhmeldgfpfeaaGreatDoorProg
namespace Go.Proofs.YtkmhmeldgfpfeaaGreatDoor
open Go.RowKit Go.Sx
set_option linter.unusedVariables false
set_option linter.unusedSimpArgs false
set_option linter.unnecessarySimpa false
set_option maxRecDepth 100000
section
variable {w0 w : World} {L : List cA}
def AV (bl:List Int) (k0:Nat) (x0:List Int):List Int:=x0.set k0 (mL .u32 (mL .u32 (mL .u32 (dY .u32 (IntKind.u32.wrap (bl.getD (4*k0) 0)) 24) (dY .u32 (IntKind.u32.wrap (bl.getD (4*k0+1) 0)) 16)) (dY .u32 (IntKind.u32.wrap (bl.getD (4*k0+2) 0)) 8)) (IntKind.u32.wrap (bl.getD (4*k0+3) 0)))
def vG (bl:List Int):List Int:=iter (AV bl) 16 (List.replicate 64 0)
def tA (k1:Nat) (x1:List Int):List Int:=x1.set k1 (IntKind.u32.wrap ((IntKind.u32.wrap ((IntKind.u32.wrap ((x1.getD (k1-16) 0)+(dL .u32 (dL .u32 (mS (x1.getD (k1-15) 0) 7) (mS (x1.getD (k1-15) 0) 18)) (bF .u32 (x1.getD (k1-15) 0) 3))))+(x1.getD (k1-7) 0)))+(dL .u32 (dL .u32 (mS (x1.getD (k1-2) 0) 17) (mS (x1.getD (k1-2) 0) 19)) (bF .u32 (x1.getD (k1-2) 0) 10))))
def AW (bl:List Int):List Int:=iter (λn=>tA (n+16)) 48 (vG bl)
def qK (x1:List Int) (k2:Nat) (x2:List Int):List Int:=[IntKind.u32.wrap ((IntKind.u32.wrap ((IntKind.u32.wrap ((IntKind.u32.wrap ((IntKind.u32.wrap ((x2.getD 7 0)+(dL .u32 (dL .u32 (mS (x2.getD 4 0) 6) (mS (x2.getD 4 0) 11)) (mS (x2.getD 4 0) 25))))+(dL .u32 (jS .u32 (x2.getD 4 0) (x2.getD 5 0)) (jS .u32 (FR .u32 (x2.getD 4 0)) (x2.getD 6 0)))))+(shaT.getD k2 0)))+(x1.getD k2 0)))+(IntKind.u32.wrap ((dL .u32 (dL .u32 (mS (x2.getD 0 0) 2) (mS (x2.getD 0 0) 13)) (mS (x2.getD 0 0) 22))+(dL .u32 (dL .u32 (jS .u32 (x2.getD 0 0) (x2.getD 1 0)) (jS .u32 (x2.getD 0 0) (x2.getD 2 0))) (jS .u32 (x2.getD 1 0) (x2.getD 2 0)))))),x2.getD 0 0,x2.getD 1 0,x2.getD 2 0,IntKind.u32.wrap ((x2.getD 3 0)+(IntKind.u32.wrap ((IntKind.u32.wrap ((IntKind.u32.wrap ((IntKind.u32.wrap ((x2.getD 7 0)+(dL .u32 (dL .u32 (mS (x2.getD 4 0) 6) (mS (x2.getD 4 0) 11)) (mS (x2.getD 4 0) 25))))+(dL .u32 (jS .u32 (x2.getD 4 0) (x2.getD 5 0)) (jS .u32 (FR .u32 (x2.getD 4 0)) (x2.getD 6 0)))))+(shaT.getD k2 0)))+(x1.getD k2 0)))),x2.getD 4 0,x2.getD 5 0,x2.getD 6 0]
def wL (s bl:List Int):List Int:=iter (qK (AW bl)) 64 s
def Iu (s:List Int) (k3:Nat) (x3:List Int):List Int:=x3.set k3 (IntKind.u32.wrap ((x3.getD k3 0)+(s.getD k3 0)))
def AX (s bl:List Int):List Int:=iter (Iu s) 8 (wL s bl)
abbrev Ob (x1:List Int) (k2:Nat) (x2:List Int):Int:=IntKind.u32.wrap ((IntKind.u32.wrap ((IntKind.u32.wrap ((IntKind.u32.wrap ((x2.getD 7 0)+(dL .u32 (dL .u32 (mS (x2.getD 4 0) 6) (mS (x2.getD 4 0) 11)) (mS (x2.getD 4 0) 25))))+(dL .u32 (jS .u32 (x2.getD 4 0) (x2.getD 5 0)) (jS .u32 (FR .u32 (x2.getD 4 0)) (x2.getD 6 0)))))+(shaT.getD k2 0)))+(x1.getD k2 0))
abbrev N9 (k1:Nat) (x1:List Int):Int:=IntKind.u32.wrap ((IntKind.u32.wrap ((IntKind.u32.wrap ((x1.getD (k1-16) 0)+(dL .u32 (dL .u32 (mS (x1.getD (k1-15) 0) 7) (mS (x1.getD (k1-15) 0) 18)) (bF .u32 (x1.getD (k1-15) 0) 3))))+(x1.getD (k1-7) 0)))+(dL .u32 (dL .u32 (mS (x1.getD (k1-2) 0) 17) (mS (x1.getD (k1-2) 0) 19)) (bF .u32 (x1.getD (k1-2) 0) 10)))
abbrev Oa (bl:List Int) (k0:Nat):Int:=mL .u32 (mL .u32 (mL .u32 (dY .u32 (IntKind.u32.wrap (bl.getD (4*k0) 0)) 24) (dY .u32 (IntKind.u32.wrap (bl.getD (4*k0+1) 0)) 16)) (dY .u32 (IntKind.u32.wrap (bl.getD (4*k0+2) 0)) 8)) (IntKind.u32.wrap (bl.getD (4*k0+3) 0))
abbrev N8:Array Value:=NS
abbrev N7:Array Value:=LS
theorem zd {p:Prop}(h:p:=by first|omega|(simp only [List.length_set];omega)|(simp only [List.length_set,List.length_append,List.length_cons,List.length_nil];omega)|(simp only [uX];omega)):p:=h
theorem Ch s bl (hs8:s.length=8) (hb:bl.length=64) (hs:St w0 L w):Cs Tryz.prog 94 #[.agg (af bM s),.agg (af aA bl)] w λrv w'=>rv=.agg (af bM (AX s bl))/\St w0 L w':=by
 refine cL Tryz.func94 Tryz.ntmps94 (En (Ls (Lg [0,1,2] (Dz (hG (af bM s) hs λb1 w2 c6=>Lo (Dz (hG (af aA bl) c6 λb4 w5 c7=>Lo (Dz (eN N7 c7 λb7 w8 c8=>Lo (Ld (Lt (Ls (Lg [0] (Dz (eN N8 c8 λu c9 d0=>Lo (Ld (Lt (Ls (Lq (Lb (Dz ?_)))))))))))))))))))))
 have d1:St w0 (aC u (af bM (List.replicate 64 0)) 198::aC b7 N7 147::aC b4 (af aA bl) 149::aC b1 (af bM s) 147::L) c9:=Eq.mp zk d0
 refine bH.loop (T:=Nat×(List Int)) (λgg=>[(2,zP b1 0),(3,zP b4 0),(4,zP b7 0),(5,zP u 0),(6,.int .i64 (gg.1:Nat))]) (λgg w=>(gg.1<=16/\gg.2=iter (AV bl) gg.1 (List.replicate 64 0)/\gg.2.length=64)/\St w0 (aC u (af bM gg.2) 198::aC b7 N7 147::aC b4 (af aA bl) 149::aC b1 (af bM s) 147::L) w) (λgg=>16-gg.1) (0,(List.replicate 64 0)) [2,3,4,5,6] zk ⟨⟨Nat.le_of_ble_eq_true rfl,rfl,rfl⟩,d1⟩ ?_
 rintro⟨x,x0⟩ e8 ⟨hpa,b8⟩
 dsimp only at hpa b8
 refine En (Ls (Lq (Dz (Zi ((x:Int)<16) (λd2=>?_) (λd2=>?_)))))
 ·exact Zk (Zt (Zs (Zb (ZD (eR [0,1,2,3,4,5,6,7,8,9,10,11,12,13,14,15,16,17,18,19,20,21,22,23,24,25,26,27,28,29,30] (.ef 31 .done)) b8 λe9 a6 f0=>Zj (dW 2 (4*(x:Nat)) (Hx 3 ((4*(x:Nat)):Int) (64:Int) b4 0 1 (Hg 4 (.gen [.int .u8 (bl.getD (4*x) 0)]) [.cell ⟨b4,0+((4*x)*1),none⟩ (.int .u8 (bl.getD (4*x) 0))] (bP (aB.dX (aI a6 2 rfl aF.size (0:Int)) (k:=(4*x)) zd (j:=0) zf zk) aO) (Hg 6 (.shift (dY .u32 (IntKind.u32.wrap (bl.getD (4*x) 0)) 24)) [.prop ((0:Int)<=24/\IntKind.u32.wrap ((IntKind.u32.wrap (bl.getD (4*x) 0))*2 ^ (min (Int.toNat 24) (IntKind.bits .u32)))=dY .u32 (IntKind.u32.wrap (bl.getD (4*x) 0)) 24)] (aL ⟨(by first|omega|exact bW rfl _),rfl⟩ aO) (dW 8 (4*(x:Nat)) (dW 9 ((4*(x:Nat))+1) (Hx 10 (((4*(x:Nat))+1):Int) (64:Int) b4 0 1 (Hg 11 (.gen [.int .u8 (bl.getD (4*x+1) 0)]) [.cell ⟨b4,0+((4*x+1)*1),none⟩ (.int .u8 (bl.getD (4*x+1) 0))] (bP (aB.dX (aI a6 2 rfl aF.size (0:Int)) (k:=(4*x+1)) zd (j:=0) zf zk) aO) (Hg 13 (.shift (dY .u32 (IntKind.u32.wrap (bl.getD (4*x+1) 0)) 16)) [.prop ((0:Int)<=16/\IntKind.u32.wrap ((IntKind.u32.wrap (bl.getD (4*x+1) 0))*2 ^ (min (Int.toNat 16) (IntKind.bits .u32)))=dY .u32 (IntKind.u32.wrap (bl.getD (4*x+1) 0)) 16)] (aL ⟨(by first|omega|exact bW rfl _),rfl⟩ aO) (dW 16 (4*(x:Nat)) (dW 17 ((4*(x:Nat))+2) (Hx 18 (((4*(x:Nat))+2):Int) (64:Int) b4 0 1 (Hg 19 (.gen [.int .u8 (bl.getD (4*x+2) 0)]) [.cell ⟨b4,0+((4*x+2)*1),none⟩ (.int .u8 (bl.getD (4*x+2) 0))] (bP (aB.dX (aI a6 2 rfl aF.size (0:Int)) (k:=(4*x+2)) zd (j:=0) zf zk) aO) (Hg 21 (.shift (dY .u32 (IntKind.u32.wrap (bl.getD (4*x+2) 0)) 8)) [.prop ((0:Int)<=8/\IntKind.u32.wrap ((IntKind.u32.wrap (bl.getD (4*x+2) 0))*2 ^ (min (Int.toNat 8) (IntKind.bits .u32)))=dY .u32 (IntKind.u32.wrap (bl.getD (4*x+2) 0)) 8)] (aL ⟨(by first|omega|exact bW rfl _),rfl⟩ aO) (dW 24 (4*(x:Nat)) (dW 25 ((4*(x:Nat))+3) (Hx 26 (((4*(x:Nat))+3):Int) (64:Int) b4 0 1 (Hg 27 (.gen [.int .u8 (bl.getD (4*x+3) 0)]) [.cell ⟨b4,0+((4*x+3)*1),none⟩ (.int .u8 (bl.getD (4*x+3) 0))] (bP (aB.dX (aI a6 2 rfl aF.size (0:Int)) (k:=(4*x+3)) zd (j:=0) zf zk) aO) (Hx 30 (x:Int) (64:Int) u 0 1 Hz))))))))))))))))))) (aU.store rfl rfl zk (b:=u) (off:=0+(x*1)) (v:=.int .u32 (Oa bl x)) zk zk (ti:=Tryz.t146) zk a6 0 rfl zk zk (by rw [Nat.zero_add];exact fN (f:=bM) (size:=1) (l:=x0) (k:=x) bN.size zd) (cs':=af bM (AV bl x x0)) (L':=(aC u (af bM (AV bl x x0)) 198)::aC b7 N7 147::aC b4 (af aA bl) 149::aC b1 (af bM s) 147::L) (by rw [Nat.zero_add];exact eT (f:=bM) (size:=1) (l:=x0) (k:=x) bN.size zd (Oa bl x)) rfl λf1 d3=>Lo (Ld (Lm (Lt (Dz (cS (dW 1 ((x:Nat)+1) Hz) (aN.back (x+1,x0.set x (Oa bl x)) [2,3,4,5,6] zk (by show 16-(x+1)<16-x;omega) ⟨⟨za,by rw [fF,<- hpa.2.1];rfl,by first|rfl|(simp only [List.length_set];omega)⟩,d3⟩)))))))))))
 ·refine En (Lx (kD (kE (Lh (Lt (Ls (Lq (Lb (Dz (bH.loop (T:=Nat×(List Int)) (λgg=>[(2,zP b1 0),(4,zP b7 0),(5,zP u 0),(7,.int .i64 (gg.1:Nat))]) (λgg w=>(16<=gg.1/\gg.1<=64/\gg.2=iter (λn=>tA (n+16)) (gg.1-16) (vG bl)/\gg.2.length=64)/\St w0 (aC u (af bM gg.2) 198::aC b7 N7 147::aC b4 (af aA bl) 149::aC b1 (af bM s) 147::L) w) (λgg=>64-gg.1) (16,x0) [2,4,5,7] zk ⟨⟨Nat.le_refl _,Nat.le_of_ble_eq_true rfl,(by rw [Nat.sub_self,yC,hpa.2.1,show x=16 by omega];rfl),zu⟩,b8⟩ ?_))))))))))
  rintro⟨d,o⟩ f2 ⟨hpb,b2⟩
  dsimp only at hpb b2
  refine En (Ls (Lq (Dz (Zi ((d:Int)<64) (λd4=>?_) (λd4=>?_)))))
  ·refine Zk (Zt (Zs (Zb (Zs (ZD (eR [0,1,2,3,5,6,7,8,11,12,13,14,15] (.ef 4 (.ef 9 (eR [10,16,17] .done)))) b2 λf3 b3 f4=>Zj (Hg 1 (.eJ (.int .i64 (d-15:Nat)) (.gen [])) [.prop (Value.int .i64 (IntKind.i64.wrap ((d:Nat)-15))=Value.int .i64 (d-15:Nat))] (aL (gV za za za) aO) (Hx 2 ((d-15:Nat):Int) (64:Int) u 0 1 (Hg 3 (.gen [.int .u32 (o.getD (d-15) 0)]) [.cell ⟨u,0+((d-15)*1),none⟩ (.int .u32 (o.getD (d-15) 0))] (bP (aB.dX (aI b3 0 rfl bN.size (0:Int)) (k:=(d-15)) zd (j:=0) zf zk) aO) (Hg 6 (.eJ (.int .i64 (d-15:Nat)) (.gen [])) [.prop (Value.int .i64 (IntKind.i64.wrap ((d:Nat)-15))=Value.int .i64 (d-15:Nat))] (aL (gV za za za) aO) (Hx 7 ((d-15:Nat):Int) (64:Int) u 0 1 (Hg 8 (.gen [.int .u32 (o.getD (d-15) 0)]) [.cell ⟨u,0+((d-15)*1),none⟩ (.int .u32 (o.getD (d-15) 0))] (bP (aB.dX (aI b3 0 rfl bN.size (0:Int)) (k:=(d-15)) zd (j:=0) zf zk) aO) (Hg 12 (.eJ (.int .i64 (d-15:Nat)) (.gen [])) [.prop (Value.int .i64 (IntKind.i64.wrap ((d:Nat)-15))=Value.int .i64 (d-15:Nat))] (aL (gV za za za) aO) (Hx 13 ((d-15:Nat):Int) (64:Int) u 0 1 (Hg 14 (.gen [.int .u32 (o.getD (d-15) 0)]) [.cell ⟨u,0+((d-15)*1),none⟩ (.int .u32 (o.getD (d-15) 0))] (bP (aB.dX (aI b3 0 rfl bN.size (0:Int)) (k:=(d-15)) zd (j:=0) zf zk) aO) (Hg 15 (.shift (bF .u32 (o.getD (d-15) 0) 3)) [.prop ((0:Int)<=3/\Int.fdiv (o.getD (d-15) 0) (2 ^ (min (Int.toNat 3) (IntKind.bits .u32)))=bF .u32 (o.getD (d-15) 0) 3)] (aL ⟨(by first|omega|exact bW rfl _),rfl⟩ aO) Hz)))))))))) (dE (f:=135) (args:=#[.int .u32 (o.getD (d-15) 0),.int .u64 7]) Tryz.call135 (jA (o.getD (d-15) 0) 7 zf b3) ?_))))))
   rintro f5 f6 ⟨rfl,b9⟩
   refine⟨fM (n:=[.prop ((0:Int)<=3/\Int.fdiv (o.getD (d-15) 0) (2 ^ (min (Int.toNat 3) (IntKind.bits .u32)))=bF .u32 (o.getD (d-15) 0) 3),.cell ⟨u,0+((d-15)*1),none⟩ (.int .u32 (o.getD (d-15) 0)),.prop (0<=((d-15:Nat):Int)/\((d-15:Nat):Int)<(64:Int)),.prop (Value.pointer (some (Addr.add ⟨u,0,none⟩ (Int.toNat (d-15:Nat)*1)))=Value.pointer (some ⟨u,0+((d-15)*1),none⟩)),.prop (Value.int .i64 (IntKind.i64.wrap ((d:Nat)-15))=Value.int .i64 (d-15:Nat)),.cell ⟨u,0+((d-15)*1),none⟩ (.int .u32 (o.getD (d-15) 0)),.prop (0<=((d-15:Nat):Int)/\((d-15:Nat):Int)<(64:Int)),.prop (Value.pointer (some (Addr.add ⟨u,0,none⟩ (Int.toNat (d-15:Nat)*1)))=Value.pointer (some ⟨u,0+((d-15)*1),none⟩)),.prop (Value.int .i64 (IntKind.i64.wrap ((d:Nat)-15))=Value.int .i64 (d-15:Nat))]) zk (aL ⟨(by first|omega|exact bW rfl _),rfl⟩ (bP (aB.dX (aI b9 0 rfl bN.size (0:Int)) (k:=(d-15)) zd (j:=0) zf zk) (aL za (aL (bK _ _ _) (aL (gV za za za) (bP (aB.dX (aI b9 0 rfl bN.size (0:Int)) (k:=(d-15)) zd (j:=0) zf zk) (aL za (aL (bK _ _ _) (aL (gV za za za) aO))))))))),dE (f:=135) (args:=#[.int .u32 (o.getD (d-15) 0),.int .u64 18]) Tryz.call135 (jA (o.getD (d-15) 0) 18 zf b9) ?_⟩
   rintro f7 f8 ⟨rfl,c3⟩
   refine⟨fM (n:=[.prop ((0:Int)<=3/\Int.fdiv (o.getD (d-15) 0) (2 ^ (min (Int.toNat 3) (IntKind.bits .u32)))=bF .u32 (o.getD (d-15) 0) 3),.cell ⟨u,0+((d-15)*1),none⟩ (.int .u32 (o.getD (d-15) 0)),.prop (0<=((d-15:Nat):Int)/\((d-15:Nat):Int)<(64:Int)),.prop (Value.pointer (some (Addr.add ⟨u,0,none⟩ (Int.toNat (d-15:Nat)*1)))=Value.pointer (some ⟨u,0+((d-15)*1),none⟩)),.prop (Value.int .i64 (IntKind.i64.wrap ((d:Nat)-15))=Value.int .i64 (d-15:Nat))]) zk (aL ⟨(by first|omega|exact bW rfl _),rfl⟩ (bP (aB.dX (aI c3 0 rfl bN.size (0:Int)) (k:=(d-15)) zd (j:=0) zf zk) (aL za (aL (bK _ _ _) (aL (gV za za za) aO))))),En (bO (Lt (Ls (Dz (ZD (eR [0,1,2,3,5,6,7,8,11,12,13,14,15] (.ef 4 (.ef 9 (eR [10,16,17] .done)))) c3 λf9 b5 g0=>Zj (Hg 1 (.eJ (.int .i64 (d-2:Nat)) (.gen [])) [.prop (Value.int .i64 (IntKind.i64.wrap ((d:Nat)-2))=Value.int .i64 (d-2:Nat))] (aL (gV za za za) aO) (Hx 2 ((d-2:Nat):Int) (64:Int) u 0 1 (Hg 3 (.gen [.int .u32 (o.getD (d-2) 0)]) [.cell ⟨u,0+((d-2)*1),none⟩ (.int .u32 (o.getD (d-2) 0))] (bP (aB.dX (aI b5 0 rfl bN.size (0:Int)) (k:=(d-2)) zd (j:=0) zf zk) aO) (Hg 6 (.eJ (.int .i64 (d-2:Nat)) (.gen [])) [.prop (Value.int .i64 (IntKind.i64.wrap ((d:Nat)-2))=Value.int .i64 (d-2:Nat))] (aL (gV za za za) aO) (Hx 7 ((d-2:Nat):Int) (64:Int) u 0 1 (Hg 8 (.gen [.int .u32 (o.getD (d-2) 0)]) [.cell ⟨u,0+((d-2)*1),none⟩ (.int .u32 (o.getD (d-2) 0))] (bP (aB.dX (aI b5 0 rfl bN.size (0:Int)) (k:=(d-2)) zd (j:=0) zf zk) aO) (Hg 12 (.eJ (.int .i64 (d-2:Nat)) (.gen [])) [.prop (Value.int .i64 (IntKind.i64.wrap ((d:Nat)-2))=Value.int .i64 (d-2:Nat))] (aL (gV za za za) aO) (Hx 13 ((d-2:Nat):Int) (64:Int) u 0 1 (Hg 14 (.gen [.int .u32 (o.getD (d-2) 0)]) [.cell ⟨u,0+((d-2)*1),none⟩ (.int .u32 (o.getD (d-2) 0))] (bP (aB.dX (aI b5 0 rfl bN.size (0:Int)) (k:=(d-2)) zd (j:=0) zf zk) aO) (Hg 15 (.shift (bF .u32 (o.getD (d-2) 0) 10)) [.prop ((0:Int)<=10/\Int.fdiv (o.getD (d-2) 0) (2 ^ (min (Int.toNat 10) (IntKind.bits .u32)))=bF .u32 (o.getD (d-2) 0) 10)] (aL ⟨(by first|omega|exact bW rfl _),rfl⟩ aO) Hz)))))))))) (dE (f:=135) (args:=#[.int .u32 (o.getD (d-2) 0),.int .u64 17]) Tryz.call135 (jA (o.getD (d-2) 0) 17 zf b5) ?_))))))⟩
   rintro g5 g7 ⟨rfl,c0⟩
   refine⟨fM (n:=[.prop ((0:Int)<=10/\Int.fdiv (o.getD (d-2) 0) (2 ^ (min (Int.toNat 10) (IntKind.bits .u32)))=bF .u32 (o.getD (d-2) 0) 10),.cell ⟨u,0+((d-2)*1),none⟩ (.int .u32 (o.getD (d-2) 0)),.prop (0<=((d-2:Nat):Int)/\((d-2:Nat):Int)<(64:Int)),.prop (Value.pointer (some (Addr.add ⟨u,0,none⟩ (Int.toNat (d-2:Nat)*1)))=Value.pointer (some ⟨u,0+((d-2)*1),none⟩)),.prop (Value.int .i64 (IntKind.i64.wrap ((d:Nat)-2))=Value.int .i64 (d-2:Nat)),.cell ⟨u,0+((d-2)*1),none⟩ (.int .u32 (o.getD (d-2) 0)),.prop (0<=((d-2:Nat):Int)/\((d-2:Nat):Int)<(64:Int)),.prop (Value.pointer (some (Addr.add ⟨u,0,none⟩ (Int.toNat (d-2:Nat)*1)))=Value.pointer (some ⟨u,0+((d-2)*1),none⟩)),.prop (Value.int .i64 (IntKind.i64.wrap ((d:Nat)-2))=Value.int .i64 (d-2:Nat))]) zk (aL ⟨(by first|omega|exact bW rfl _),rfl⟩ (bP (aB.dX (aI c0 0 rfl bN.size (0:Int)) (k:=(d-2)) zd (j:=0) zf zk) (aL za (aL (bK _ _ _) (aL (gV za za za) (bP (aB.dX (aI c0 0 rfl bN.size (0:Int)) (k:=(d-2)) zd (j:=0) zf zk) (aL za (aL (bK _ _ _) (aL (gV za za za) aO))))))))),dE (f:=135) (args:=#[.int .u32 (o.getD (d-2) 0),.int .u64 19]) Tryz.call135 (jA (o.getD (d-2) 0) 19 zf c0) ?_⟩
   rintro g8 g9 ⟨rfl,c4⟩
   exact⟨fM (n:=[.prop ((0:Int)<=10/\Int.fdiv (o.getD (d-2) 0) (2 ^ (min (Int.toNat 10) (IntKind.bits .u32)))=bF .u32 (o.getD (d-2) 0) 10),.cell ⟨u,0+((d-2)*1),none⟩ (.int .u32 (o.getD (d-2) 0)),.prop (0<=((d-2:Nat):Int)/\((d-2:Nat):Int)<(64:Int)),.prop (Value.pointer (some (Addr.add ⟨u,0,none⟩ (Int.toNat (d-2:Nat)*1)))=Value.pointer (some ⟨u,0+((d-2)*1),none⟩)),.prop (Value.int .i64 (IntKind.i64.wrap ((d:Nat)-2))=Value.int .i64 (d-2:Nat))]) zk (aL ⟨(by first|omega|exact bW rfl _),rfl⟩ (bP (aB.dX (aI c4 0 rfl bN.size (0:Int)) (k:=(d-2)) zd (j:=0) zf zk) (aL za (aL (bK _ _ _) (aL (gV za za za) aO))))),En (bO (Lt (Dz (ZD (eR [0,1,2,3,4,5,6,7,8,9,10,11,12,13,14] (.ef 15 .done)) c4 λh0 c1 h1=>Zj (Hg 2 (.eJ (.int .i64 (d-16:Nat)) (.gen [])) [.prop (Value.int .i64 (IntKind.i64.wrap ((d:Nat)-16))=Value.int .i64 (d-16:Nat))] (aL (gV za za za) aO) (Hx 3 ((d-16:Nat):Int) (64:Int) u 0 1 (Hg 4 (.gen [.int .u32 (o.getD (d-16) 0)]) [.cell ⟨u,0+((d-16)*1),none⟩ (.int .u32 (o.getD (d-16) 0))] (bP (aB.dX (aI c1 0 rfl bN.size (0:Int)) (k:=(d-16)) zd (j:=0) zf zk) aO) (Hg 8 (.eJ (.int .i64 (d-7:Nat)) (.gen [])) [.prop (Value.int .i64 (IntKind.i64.wrap ((d:Nat)-7))=Value.int .i64 (d-7:Nat))] (aL (gV za za za) aO) (Hx 9 ((d-7:Nat):Int) (64:Int) u 0 1 (Hg 10 (.gen [.int .u32 (o.getD (d-7) 0)]) [.cell ⟨u,0+((d-7)*1),none⟩ (.int .u32 (o.getD (d-7) 0))] (bP (aB.dX (aI c1 0 rfl bN.size (0:Int)) (k:=(d-7)) zd (j:=0) zf zk) aO) (Hx 14 (d:Int) (64:Int) u 0 1 Hz))))))) (aU.store rfl rfl zk (b:=u) (off:=0+(d*1)) (v:=.int .u32 (N9 d o)) zk zk (ti:=Tryz.t146) zk c1 0 rfl zk zk (by rw [Nat.zero_add];exact fN (f:=bM) (size:=1) (l:=o) (k:=d) bN.size zd) (cs':=af bM (tA d o)) (L':=(aC u (af bM (tA d o)) 198)::aC b7 N7 147::aC b4 (af aA bl) 149::aC b1 (af bM s) 147::L) (by rw [Nat.zero_add];exact eT (f:=bM) (size:=1) (l:=o) (k:=d) bN.size zd (N9 d o)) rfl λh2 d5=>Lo (Ld (Lm (Lt (Dz (cS (dW 1 ((d:Nat)+1) Hz) (aN.back (d+1,o.set d (N9 d o)) [2,4,5,7] zk (by show 64-(d+1)<64-d;omega) ⟨⟨za,za,by rw [show d+1-16=(d-16)+1 by omega,fF,<- hpb.2.2.1,show d-16+16=d by omega];rfl,by first|rfl|(simp only [List.length_set];omega)⟩,d5⟩)))))))))))⟩
  ·refine Zx (aN.cJ (aN.fJ (aN.iT (Zt (Zs (bX [1,2] (Hg 0 (.agg (af bM s)) [.prop (Array.size (af bM s)=8),.cells ⟨b1,0,none⟩ (af bM s)] (aL (bQ bN (show(s).length=8 from zu) rfl) (eM (b2.cells 3 0 rfl zG) aO)) Hz) (eN N7 b2 λe h3 d6=>Lo (Dz (aU.store rfl rfl zk (b:=e) (off:=0) (v:=.agg (af bM s)) zk zk (ti:=Tryz.t147) zk d6 0 rfl (cK bN (show(s).length=8 from zu) zk) (eQ bN) (eF bN (show(s).length=8 from zu) zk) (cs':=af bM s) (L':=(aC e (af bM s) 147)::aC u (af bM o) 198::aC b7 N7 147::aC b4 (af aA bl) 149::aC b1 (af bM s) 147::L) (eX bN (show(s).length=8 from zu) zk) rfl λh4 d7=>Lo (Ld (Lt (Ls (Lg [0,1,2] (Dz (dE (f:=136) (args:=#[]) Tryz.call136 (Ki d7) ?_)))))))))))))))
   rintro h5 h6 ⟨rfl,d8⟩
   refine Lo (Dz (eN N8 d8 λa0 h7 d9=>Lo (Dz (Zu 0 0 Nr d9 λe0 e1=>Lo (Ld (Lt (Ls (Lq (Lb (Dz ?_))))))))))
   have e2:St w0 (aC a0 (af bM shaT) 198::aC e (af bM s) 147::aC u (af bM o) 198::aC b7 N7 147::aC b4 (af aA bl) 149::aC b1 (af bM s) 147::L) e0:=Eq.mp zk e1
   refine bH.loop (T:=Nat×(List Int)) (λgg=>[(2,zP b1 0),(4,zP b7 0),(5,zP u 0),(10,zP e 0),(11,zP a0 0),(12,.int .i64 (gg.1:Nat))]) (λgg w=>(gg.1<=64/\gg.2=iter (qK o) gg.1 s/\gg.2.length=8)/\St w0 (aC a0 (af bM shaT) 198::aC e (af bM gg.2) 147::aC u (af bM o) 198::aC b7 N7 147::aC b4 (af aA bl) 149::aC b1 (af bM s) 147::L) w) (λgg=>64-gg.1) (0,s) [2,4,5,10,11,12] zk ⟨⟨Nat.le_of_ble_eq_true rfl,rfl,zu⟩,e2⟩ ?_
   rintro⟨q,i⟩ h8 ⟨hpc,a7⟩
   dsimp only at hpc a7
   refine En (Ls (Lq (Dz (Zi ((q:Int)<64) (λe3=>?_) (λe3=>?_)))))
   ·refine Zk (Zt (Zs (Zb (Zs (cS (Hx 0 (4:Int) (8:Int) e 0 1 (Hg 1 (.gen [.int .u32 (i.getD 4 0)]) [.cell ⟨e,4,none⟩ (.int .u32 (i.getD 4 0))] (bP (aB.dX (aI a7 1 rfl bN.size (0:Int)) (k:=4) zd (j:=0) zf zk) aO) Hz)) (Zt (Zs (cS (Hx 0 (0:Int) (8:Int) e 0 1 (Hg 1 (.gen [.int .u32 (i.getD 0 0)]) [.cell ⟨e,0,none⟩ (.int .u32 (i.getD 0 0))] (bP (aB.dX (aI a7 1 rfl bN.size (0:Int)) (k:=0) zd (j:=0) zf zk) aO) Hz)) (Zt (Zs (ZD (eR [0,1,2,4,7,11,12,13,14,15,16,17,18,19,20,22,23,24,26,27,28] (.ef 3 (.ef 5 (.rd 6 (.ef 8 (eR [9,10,21,25,29,30] .done)))))) a7 λh9 a2 i0=>Zj (Hx 0 (7:Int) (8:Int) e 0 1 (Hg 1 (.gen [.int .u32 (i.getD 7 0)]) [.cell ⟨e,7,none⟩ (.int .u32 (i.getD 7 0))] (bP (aB.dX (aI a2 1 rfl bN.size (0:Int)) (k:=7) zd (j:=0) zf zk) aO) (Hx 12 (5:Int) (8:Int) e 0 1 (Hg 13 (.gen [.int .u32 (i.getD 5 0)]) [.cell ⟨e,5,none⟩ (.int .u32 (i.getD 5 0))] (bP (aB.dX (aI a2 1 rfl bN.size (0:Int)) (k:=5) zd (j:=0) zf zk) aO) (Hx 17 (6:Int) (8:Int) e 0 1 (Hg 18 (.gen [.int .u32 (i.getD 6 0)]) [.cell ⟨e,6,none⟩ (.int .u32 (i.getD 6 0))] (bP (aB.dX (aI a2 1 rfl bN.size (0:Int)) (k:=6) zd (j:=0) zf zk) aO) (Hx 23 (q:Int) (64:Int) a0 0 1 (Hg 24 (.gen [.int .u32 (shaT.getD q 0)]) [.cell ⟨a0,0+(q*1),none⟩ (.int .u32 (shaT.getD q 0))] (bP (aB.dX (aI a2 0 rfl bN.size (0:Int)) (k:=q) zd (j:=0) zf zk) aO) (Hx 27 (q:Int) (64:Int) u 0 1 (Hg 28 (.gen [.int .u32 (o.getD q 0)]) [.cell ⟨u,0+(q*1),none⟩ (.int .u32 (o.getD q 0))] (bP (aB.dX (aI a2 2 rfl bN.size (0:Int)) (k:=q) zd (j:=0) zf zk) aO) Hz)))))))))) (dE (f:=135) (args:=#[.int .u32 (i.getD 4 0),.int .u64 6]) Tryz.call135 (jA (i.getD 4 0) 6 zf a2) ?_))))))))))))
    rintro i1 i2 ⟨rfl,a3⟩
    refine⟨fM (n:=[.cell ⟨u,0+(q*1),none⟩ (.int .u32 (o.getD q 0)),.prop (0<=(q:Int)/\(q:Int)<(64:Int)),.prop (Value.pointer (some (Addr.add ⟨u,0,none⟩ (Int.toNat (q:Nat)*1)))=Value.pointer (some ⟨u,0+(q*1),none⟩)),.cell ⟨a0,0+(q*1),none⟩ (.int .u32 (shaT.getD q 0)),.prop (0<=(q:Int)/\(q:Int)<(64:Int)),.prop (Value.pointer (some (Addr.add ⟨a0,0,none⟩ (Int.toNat (q:Nat)*1)))=Value.pointer (some ⟨a0,0+(q*1),none⟩)),.cell ⟨e,6,none⟩ (.int .u32 (i.getD 6 0)),.prop (0<=(6:Int)/\(6:Int)<(8:Int)),.prop (Value.pointer (some (Addr.add ⟨e,0,none⟩ (Int.toNat 6*1)))=Value.pointer (some ⟨e,6,none⟩)),.cell ⟨e,5,none⟩ (.int .u32 (i.getD 5 0)),.prop (0<=(5:Int)/\(5:Int)<(8:Int)),.prop (Value.pointer (some (Addr.add ⟨e,0,none⟩ (Int.toNat 5*1)))=Value.pointer (some ⟨e,5,none⟩)),.cell ⟨e,7,none⟩ (.int .u32 (i.getD 7 0)),.prop (0<=(7:Int)/\(7:Int)<(8:Int)),.prop (Value.pointer (some (Addr.add ⟨e,0,none⟩ (Int.toNat 7*1)))=Value.pointer (some ⟨e,7,none⟩))]) zk (bP (aB.dX (aI a3 2 rfl bN.size (0:Int)) (k:=q) zd (j:=0) zf zk) (aL za (aL (bK _ _ _) (bP (aB.dX (aI a3 0 rfl bN.size (0:Int)) (k:=q) zd (j:=0) zf zk) (aL za (aL (bK _ _ _) (bP (aB.dX (aI a3 1 rfl bN.size (0:Int)) (k:=6) zd (j:=0) zf zk) (aL za (aL (bK _ _ _) (bP (aB.dX (aI a3 1 rfl bN.size (0:Int)) (k:=5) zd (j:=0) zf zk) (aL za (aL (bK _ _ _) (bP (aB.dX (aI a3 1 rfl bN.size (0:Int)) (k:=7) zd (j:=0) zf zk) (aL za (aL (bK _ _ _) aO))))))))))))))),dE (f:=135) (args:=#[.int .u32 (i.getD 4 0),.int .u64 11]) Tryz.call135 (jA (i.getD 4 0) 11 zf a3) ?_⟩
    rintro i3 i4 ⟨rfl,a4⟩
    refine⟨fM (n:=[.cell ⟨u,0+(q*1),none⟩ (.int .u32 (o.getD q 0)),.prop (0<=(q:Int)/\(q:Int)<(64:Int)),.prop (Value.pointer (some (Addr.add ⟨u,0,none⟩ (Int.toNat (q:Nat)*1)))=Value.pointer (some ⟨u,0+(q*1),none⟩)),.cell ⟨a0,0+(q*1),none⟩ (.int .u32 (shaT.getD q 0)),.prop (0<=(q:Int)/\(q:Int)<(64:Int)),.prop (Value.pointer (some (Addr.add ⟨a0,0,none⟩ (Int.toNat (q:Nat)*1)))=Value.pointer (some ⟨a0,0+(q*1),none⟩)),.cell ⟨e,6,none⟩ (.int .u32 (i.getD 6 0)),.prop (0<=(6:Int)/\(6:Int)<(8:Int)),.prop (Value.pointer (some (Addr.add ⟨e,0,none⟩ (Int.toNat 6*1)))=Value.pointer (some ⟨e,6,none⟩)),.cell ⟨e,5,none⟩ (.int .u32 (i.getD 5 0)),.prop (0<=(5:Int)/\(5:Int)<(8:Int)),.prop (Value.pointer (some (Addr.add ⟨e,0,none⟩ (Int.toNat 5*1)))=Value.pointer (some ⟨e,5,none⟩)),.cell ⟨e,7,none⟩ (.int .u32 (i.getD 7 0)),.prop (0<=(7:Int)/\(7:Int)<(8:Int)),.prop (Value.pointer (some (Addr.add ⟨e,0,none⟩ (Int.toNat 7*1)))=Value.pointer (some ⟨e,7,none⟩))]) zk (bP (aB.dX (aI a4 2 rfl bN.size (0:Int)) (k:=q) zd (j:=0) zf zk) (aL za (aL (bK _ _ _) (bP (aB.dX (aI a4 0 rfl bN.size (0:Int)) (k:=q) zd (j:=0) zf zk) (aL za (aL (bK _ _ _) (bP (aB.dX (aI a4 1 rfl bN.size (0:Int)) (k:=6) zd (j:=0) zf zk) (aL za (aL (bK _ _ _) (bP (aB.dX (aI a4 1 rfl bN.size (0:Int)) (k:=5) zd (j:=0) zf zk) (aL za (aL (bK _ _ _) (bP (aB.dX (aI a4 1 rfl bN.size (0:Int)) (k:=7) zd (j:=0) zf zk) (aL za (aL (bK _ _ _) aO))))))))))))))),En (Lw (dE (f:=135) (args:=#[.int .u32 (i.getD 4 0),.int .u64 25]) Tryz.call135 (jA (i.getD 4 0) 25 zf a4) ?_))⟩
    rintro i5 i6 ⟨rfl,a5⟩
    refine⟨fM (n:=[.cell ⟨u,0+(q*1),none⟩ (.int .u32 (o.getD q 0)),.prop (0<=(q:Int)/\(q:Int)<(64:Int)),.prop (Value.pointer (some (Addr.add ⟨u,0,none⟩ (Int.toNat (q:Nat)*1)))=Value.pointer (some ⟨u,0+(q*1),none⟩)),.cell ⟨a0,0+(q*1),none⟩ (.int .u32 (shaT.getD q 0)),.prop (0<=(q:Int)/\(q:Int)<(64:Int)),.prop (Value.pointer (some (Addr.add ⟨a0,0,none⟩ (Int.toNat (q:Nat)*1)))=Value.pointer (some ⟨a0,0+(q*1),none⟩)),.cell ⟨e,6,none⟩ (.int .u32 (i.getD 6 0)),.prop (0<=(6:Int)/\(6:Int)<(8:Int)),.prop (Value.pointer (some (Addr.add ⟨e,0,none⟩ (Int.toNat 6*1)))=Value.pointer (some ⟨e,6,none⟩)),.cell ⟨e,5,none⟩ (.int .u32 (i.getD 5 0)),.prop (0<=(5:Int)/\(5:Int)<(8:Int)),.prop (Value.pointer (some (Addr.add ⟨e,0,none⟩ (Int.toNat 5*1)))=Value.pointer (some ⟨e,5,none⟩)),.cell ⟨e,7,none⟩ (.int .u32 (i.getD 7 0)),.prop (0<=(7:Int)/\(7:Int)<(8:Int)),.prop (Value.pointer (some (Addr.add ⟨e,0,none⟩ (Int.toNat 7*1)))=Value.pointer (some ⟨e,7,none⟩))]) zk (bP (aB.dX (aI a5 2 rfl bN.size (0:Int)) (k:=q) zd (j:=0) zf zk) (aL za (aL (bK _ _ _) (bP (aB.dX (aI a5 0 rfl bN.size (0:Int)) (k:=q) zd (j:=0) zf zk) (aL za (aL (bK _ _ _) (bP (aB.dX (aI a5 1 rfl bN.size (0:Int)) (k:=6) zd (j:=0) zf zk) (aL za (aL (bK _ _ _) (bP (aB.dX (aI a5 1 rfl bN.size (0:Int)) (k:=5) zd (j:=0) zf zk) (aL za (aL (bK _ _ _) (bP (aB.dX (aI a5 1 rfl bN.size (0:Int)) (k:=7) zd (j:=0) zf zk) (aL za (aL (bK _ _ _) aO))))))))))))))),En (bO (Lt (Ls (Dz (ZD (eR [0,2,5,8,9,10,11,12,13,14,15,16,17,18,19,20,21,22] (.ef 1 (.ef 3 (.rd 4 (.ef 6 (eR [7,23,24] .done)))))) a5 λi7 a8 i8=>Zj (Hx 9 (1:Int) (8:Int) e 0 1 (Hg 10 (.gen [.int .u32 (i.getD 1 0)]) [.cell ⟨e,1,none⟩ (.int .u32 (i.getD 1 0))] (bP (aB.dX (aI a8 1 rfl bN.size (0:Int)) (k:=1) zd (j:=0) zf zk) aO) (Hx 13 (2:Int) (8:Int) e 0 1 (Hg 14 (.gen [.int .u32 (i.getD 2 0)]) [.cell ⟨e,2,none⟩ (.int .u32 (i.getD 2 0))] (bP (aB.dX (aI a8 1 rfl bN.size (0:Int)) (k:=2) zd (j:=0) zf zk) aO) (Hx 17 (1:Int) (8:Int) e 0 1 (Hg 18 (.gen [.int .u32 (i.getD 1 0)]) [.cell ⟨e,1,none⟩ (.int .u32 (i.getD 1 0))] (bP (aB.dX (aI a8 1 rfl bN.size (0:Int)) (k:=1) zd (j:=0) zf zk) aO) (Hx 19 (2:Int) (8:Int) e 0 1 (Hg 20 (.gen [.int .u32 (i.getD 2 0)]) [.cell ⟨e,2,none⟩ (.int .u32 (i.getD 2 0))] (bP (aB.dX (aI a8 1 rfl bN.size (0:Int)) (k:=2) zd (j:=0) zf zk) aO) Hz)))))))) (dE (f:=135) (args:=#[.int .u32 (i.getD 0 0),.int .u64 2]) Tryz.call135 (jA (i.getD 0 0) 2 zf a8) ?_))))))⟩
    rintro i9 j0 ⟨rfl,a9⟩
    refine⟨fM (n:=[.cell ⟨e,2,none⟩ (.int .u32 (i.getD 2 0)),.prop (0<=(2:Int)/\(2:Int)<(8:Int)),.prop (Value.pointer (some (Addr.add ⟨e,0,none⟩ (Int.toNat 2*1)))=Value.pointer (some ⟨e,2,none⟩)),.cell ⟨e,1,none⟩ (.int .u32 (i.getD 1 0)),.prop (0<=(1:Int)/\(1:Int)<(8:Int)),.prop (Value.pointer (some (Addr.add ⟨e,0,none⟩ (Int.toNat 1*1)))=Value.pointer (some ⟨e,1,none⟩)),.cell ⟨e,2,none⟩ (.int .u32 (i.getD 2 0)),.prop (0<=(2:Int)/\(2:Int)<(8:Int)),.prop (Value.pointer (some (Addr.add ⟨e,0,none⟩ (Int.toNat 2*1)))=Value.pointer (some ⟨e,2,none⟩)),.cell ⟨e,1,none⟩ (.int .u32 (i.getD 1 0)),.prop (0<=(1:Int)/\(1:Int)<(8:Int)),.prop (Value.pointer (some (Addr.add ⟨e,0,none⟩ (Int.toNat 1*1)))=Value.pointer (some ⟨e,1,none⟩))]) zk (bP (aB.dX (aI a9 1 rfl bN.size (0:Int)) (k:=2) zd (j:=0) zf zk) (aL za (aL (bK _ _ _) (bP (aB.dX (aI a9 1 rfl bN.size (0:Int)) (k:=1) zd (j:=0) zf zk) (aL za (aL (bK _ _ _) (bP (aB.dX (aI a9 1 rfl bN.size (0:Int)) (k:=2) zd (j:=0) zf zk) (aL za (aL (bK _ _ _) (bP (aB.dX (aI a9 1 rfl bN.size (0:Int)) (k:=1) zd (j:=0) zf zk) (aL za (aL (bK _ _ _) aO)))))))))))),dE (f:=135) (args:=#[.int .u32 (i.getD 0 0),.int .u64 13]) Tryz.call135 (jA (i.getD 0 0) 13 zf a9) ?_⟩
    rintro j1 j2 ⟨rfl,b0⟩
    refine⟨fM (n:=[.cell ⟨e,2,none⟩ (.int .u32 (i.getD 2 0)),.prop (0<=(2:Int)/\(2:Int)<(8:Int)),.prop (Value.pointer (some (Addr.add ⟨e,0,none⟩ (Int.toNat 2*1)))=Value.pointer (some ⟨e,2,none⟩)),.cell ⟨e,1,none⟩ (.int .u32 (i.getD 1 0)),.prop (0<=(1:Int)/\(1:Int)<(8:Int)),.prop (Value.pointer (some (Addr.add ⟨e,0,none⟩ (Int.toNat 1*1)))=Value.pointer (some ⟨e,1,none⟩)),.cell ⟨e,2,none⟩ (.int .u32 (i.getD 2 0)),.prop (0<=(2:Int)/\(2:Int)<(8:Int)),.prop (Value.pointer (some (Addr.add ⟨e,0,none⟩ (Int.toNat 2*1)))=Value.pointer (some ⟨e,2,none⟩)),.cell ⟨e,1,none⟩ (.int .u32 (i.getD 1 0)),.prop (0<=(1:Int)/\(1:Int)<(8:Int)),.prop (Value.pointer (some (Addr.add ⟨e,0,none⟩ (Int.toNat 1*1)))=Value.pointer (some ⟨e,1,none⟩))]) zk (bP (aB.dX (aI b0 1 rfl bN.size (0:Int)) (k:=2) zd (j:=0) zf zk) (aL za (aL (bK _ _ _) (bP (aB.dX (aI b0 1 rfl bN.size (0:Int)) (k:=1) zd (j:=0) zf zk) (aL za (aL (bK _ _ _) (bP (aB.dX (aI b0 1 rfl bN.size (0:Int)) (k:=2) zd (j:=0) zf zk) (aL za (aL (bK _ _ _) (bP (aB.dX (aI b0 1 rfl bN.size (0:Int)) (k:=1) zd (j:=0) zf zk) (aL za (aL (bK _ _ _) aO)))))))))))),En (Lw (dE (f:=135) (args:=#[.int .u32 (i.getD 0 0),.int .u64 22]) Tryz.call135 (jA (i.getD 0 0) 22 zf b0) ?_))⟩
    rintro j3 j4 ⟨rfl,a1⟩
    exact⟨fM (n:=[.cell ⟨e,2,none⟩ (.int .u32 (i.getD 2 0)),.prop (0<=(2:Int)/\(2:Int)<(8:Int)),.prop (Value.pointer (some (Addr.add ⟨e,0,none⟩ (Int.toNat 2*1)))=Value.pointer (some ⟨e,2,none⟩)),.cell ⟨e,1,none⟩ (.int .u32 (i.getD 1 0)),.prop (0<=(1:Int)/\(1:Int)<(8:Int)),.prop (Value.pointer (some (Addr.add ⟨e,0,none⟩ (Int.toNat 1*1)))=Value.pointer (some ⟨e,1,none⟩)),.cell ⟨e,2,none⟩ (.int .u32 (i.getD 2 0)),.prop (0<=(2:Int)/\(2:Int)<(8:Int)),.prop (Value.pointer (some (Addr.add ⟨e,0,none⟩ (Int.toNat 2*1)))=Value.pointer (some ⟨e,2,none⟩)),.cell ⟨e,1,none⟩ (.int .u32 (i.getD 1 0)),.prop (0<=(1:Int)/\(1:Int)<(8:Int)),.prop (Value.pointer (some (Addr.add ⟨e,0,none⟩ (Int.toNat 1*1)))=Value.pointer (some ⟨e,1,none⟩))]) zk (bP (aB.dX (aI a1 1 rfl bN.size (0:Int)) (k:=2) zd (j:=0) zf zk) (aL za (aL (bK _ _ _) (bP (aB.dX (aI a1 1 rfl bN.size (0:Int)) (k:=1) zd (j:=0) zf zk) (aL za (aL (bK _ _ _) (bP (aB.dX (aI a1 1 rfl bN.size (0:Int)) (k:=2) zd (j:=0) zf zk) (aL za (aL (bK _ _ _) (bP (aB.dX (aI a1 1 rfl bN.size (0:Int)) (k:=1) zd (j:=0) zf zk) (aL za (aL (bK _ _ _) aO)))))))))))),En (bO (Lt (Dz (bX [20] (Hx 3 (0:Int) (8:Int) e 0 1 (Hg 4 (.gen [.int .u32 (i.getD 0 0)]) [.cell ⟨e,0,none⟩ (.int .u32 (i.getD 0 0))] (bP (aB.dX (aI a1 1 rfl bN.size (0:Int)) (k:=0) zd (j:=0) zf zk) aO) (Hx 5 (1:Int) (8:Int) e 0 1 (Hg 6 (.gen [.int .u32 (i.getD 1 0)]) [.cell ⟨e,1,none⟩ (.int .u32 (i.getD 1 0))] (bP (aB.dX (aI a1 1 rfl bN.size (0:Int)) (k:=1) zd (j:=0) zf zk) aO) (Hx 7 (2:Int) (8:Int) e 0 1 (Hg 8 (.gen [.int .u32 (i.getD 2 0)]) [.cell ⟨e,2,none⟩ (.int .u32 (i.getD 2 0))] (bP (aB.dX (aI a1 1 rfl bN.size (0:Int)) (k:=2) zd (j:=0) zf zk) aO) (Hx 9 (3:Int) (8:Int) e 0 1 (Hg 10 (.gen [.int .u32 (i.getD 3 0)]) [.cell ⟨e,3,none⟩ (.int .u32 (i.getD 3 0))] (bP (aB.dX (aI a1 1 rfl bN.size (0:Int)) (k:=3) zd (j:=0) zf zk) aO) (Hx 13 (4:Int) (8:Int) e 0 1 (Hg 14 (.gen [.int .u32 (i.getD 4 0)]) [.cell ⟨e,4,none⟩ (.int .u32 (i.getD 4 0))] (bP (aB.dX (aI a1 1 rfl bN.size (0:Int)) (k:=4) zd (j:=0) zf zk) aO) (Hx 15 (5:Int) (8:Int) e 0 1 (Hg 16 (.gen [.int .u32 (i.getD 5 0)]) [.cell ⟨e,5,none⟩ (.int .u32 (i.getD 5 0))] (bP (aB.dX (aI a1 1 rfl bN.size (0:Int)) (k:=5) zd (j:=0) zf zk) aO) (Hx 17 (6:Int) (8:Int) e 0 1 (Hg 18 (.gen [.int .u32 (i.getD 6 0)]) [.cell ⟨e,6,none⟩ (.int .u32 (i.getD 6 0))] (bP (aB.dX (aI a1 1 rfl bN.size (0:Int)) (k:=6) zd (j:=0) zf zk) aO) Hz)))))))))))))) (aU.store rfl rfl zk (b:=e) (off:=0) (v:=.agg (af bM (qK o q i))) zk zk (ti:=Tryz.t147) zk a1 1 rfl (cK bN (show((qK o q i):List Int).length=8 from rfl) zk) (eQ bN) (eF bN (show((qK o q i):List Int).length=8 from rfl) (by rw [bQ bN (show(i).length=8 from zu) (m:=8) rfl];rfl)) (cs':=af bM (qK o q i)) (L':=(aC a0 (af bM shaT) 198)::aC e (af bM (qK o q i)) 147::aC u (af bM o) 198::aC b7 N7 147::aC b4 (af aA bl) 149::aC b1 (af bM s) 147::L) (eX bN (show((qK o q i):List Int).length=8 from rfl) (by rw [bQ bN (show(i).length=8 from zu) (m:=8) rfl];rfl)) rfl λj5 e4=>Lo (Ld (Lm (Lt (Dz (cS (dW 1 ((q:Nat)+1) Hz) (aN.back (q+1,(qK o q i)) [2,4,5,10,11,12] zk (by show 64-(q+1)<64-q;omega) ⟨⟨za,by rw [fF,<- hpc.2.1],by first|rfl|(simp only [List.length_set];omega)⟩,e4⟩)))))))))))⟩
   ·refine En (Lx (kD (kE (Lh (Lt (Ls (Lq (Lb (Dz (bH.loop (T:=Nat×(List Int)) (λgg=>[(2,zP b1 0),(4,zP b7 0),(10,zP e 0),(17,.int .i64 (gg.1:Nat))]) (λgg w=>(gg.1<=8/\gg.2=iter (Iu s) gg.1 (wL s bl)/\gg.2.length=8)/\St w0 (aC a0 (af bM shaT) 198::aC e (af bM gg.2) 147::aC u (af bM o) 198::aC b7 N7 147::aC b4 (af aA bl) 149::aC b1 (af bM s) 147::L) w) (λgg=>8-gg.1) (0,i) [2,4,10,17] zk ⟨⟨Nat.le_of_ble_eq_true rfl,(by rw [hpc.2.1,show q=64 by omega,hpb.2.2.1,show d=64 by omega];rfl),zu⟩,a7⟩ ?_))))))))))
    rintro⟨z,x3⟩ j6 ⟨hpd,b6⟩
    dsimp only at hpd b6
    refine En (Ls (Lq (Dz (Zi ((z:Int)<8) (λe5=>?_) (λe5=>?_)))))
    ·exact Zk (Zt (Zs (Zb (ZD (eR [0,1,2,3,4,5,6,7,8] (.ef 9 .done)) b6 λj7 c2 j8=>Zj (Hx 2 (z:Int) (8:Int) e 0 1 (Hg 3 (.gen [.int .u32 (x3.getD z 0)]) [.cell ⟨e,0+(z*1),none⟩ (.int .u32 (x3.getD z 0))] (bP (aB.dX (aI c2 1 rfl bN.size (0:Int)) (k:=z) zd (j:=0) zf zk) aO) (Hx 5 (z:Int) (8:Int) b1 0 1 (Hg 6 (.gen [.int .u32 (s.getD z 0)]) [.cell ⟨b1,0+(z*1),none⟩ (.int .u32 (s.getD z 0))] (bP (aB.dX (aI c2 5 rfl bN.size (0:Int)) (k:=z) zd (j:=0) zf zk) aO) (Hx 8 (z:Int) (8:Int) e 0 1 Hz))))) (aU.store rfl rfl zk (b:=e) (off:=0+(z*1)) (v:=.int .u32 (IntKind.u32.wrap ((x3.getD z 0)+(s.getD z 0)))) zk zk (ti:=Tryz.t146) zk c2 1 rfl zk zk (by rw [Nat.zero_add];exact fN (f:=bM) (size:=1) (l:=x3) (k:=z) bN.size zd) (cs':=af bM (x3.set z (IntKind.u32.wrap ((x3.getD z 0)+(s.getD z 0))))) (L':=(aC a0 (af bM shaT) 198)::aC e (af bM (x3.set z (IntKind.u32.wrap ((x3.getD z 0)+(s.getD z 0))))) 147::aC u (af bM o) 198::aC b7 N7 147::aC b4 (af aA bl) 149::aC b1 (af bM s) 147::L) (by rw [Nat.zero_add];exact eT (f:=bM) (size:=1) (l:=x3) (k:=z) bN.size zd (IntKind.u32.wrap ((x3.getD z 0)+(s.getD z 0)))) rfl λj9 e6=>Lo (Ld (Lm (Lt (Dz (cS (dW 1 ((z:Nat)+1) Hz) (aN.back (z+1,x3.set z (IntKind.u32.wrap ((x3.getD z 0)+(s.getD z 0)))) [2,4,10,17] zk (by show 8-(z+1)<8-z;omega) ⟨⟨za,by rw [fF,<- hpd.2.1];rfl,by first|rfl|(simp only [List.length_set];omega)⟩,e6⟩)))))))))))
    ·exact Zx (aN.cJ (aN.fJ (aN.iT (Zt (Zs (bX [1] (Hg 0 (.agg (af bM x3)) [.prop (Array.size (af bM x3)=8),.cells ⟨e,0,none⟩ (af bM x3)] (aL (bQ bN (show(x3).length=8 from zu) rfl) (eM (b6.cells 1 0 rfl zG) aO)) Hz) (aU.store rfl rfl zk (b:=b7) (off:=0) (v:=.agg (af bM x3)) zk zk (ti:=Tryz.t147) zk b6 3 rfl (cK bN (show(x3).length=8 from zu) zk) (eQ bN) (eF bN (show(x3).length=8 from zu) zk) (cs':=af bM x3) (L':=(aC a0 (af bM shaT) 198)::aC e (af bM x3) 147::aC u (af bM o) 198::aC b7 (af bM x3) 147::aC b4 (af aA bl) 149::aC b1 (af bM s) 147::L) (eX bN (show(x3).length=8 from zu) zk) rfl λk4 c5=>Lo (Ld (Lt (Le (Dz (aN.done (.inl rfl) (v:=.agg (af bM x3)) (λa hf=>gW rfl zk (ti:=Tryz.t147) zk zk (vs:=af bM x3) (bQ bN (show(x3).length=8 from zu) zk) (c5.cells 3 0 rfl zG) a hf) ⟨(by rw [hpd.2.1,show z=8 by omega];rfl),c5.dr 6⟩))))))))))))
end
end Go.Proofs.YtkmhmeldgfpfeaaGreatDoor
namespace Go.Proofs.YtkmhmeldgfpfeaaGreatDoor
open Go.RowKit Go.Sx
set_option linter.unusedVariables false
set_option linter.unusedSimpArgs false
set_option maxRecDepth 100000
theorem Gu {p ys:List Int}{n:Nat}{x:Int}(hp:p.length=64) (h:n+ys.length<64):dA (dA p n ys) (n+ys.length) [x]=dA p n (ys++[x]):=by
 have h0:(p.take n++ys).length=n+ys.length:=by rw [List.length_append,List.length_take];omega
 unfold dA
 rw [List.take_left' h0,<- List.drop_drop,List.drop_left' h0,List.drop_drop,List.length_append]
 simp only [List.append_assoc,Nat.add_assoc]
def Da (h:HS) (x:Int):HS:=lJ h [x]
theorem Iv {s p:List Int}{n:Nat}(x:Int) (h:n<64):Da (s,p,n) x=if n+1=64 then (eP s (dA p n [x]),dA p n [x],0) else (s,dA p n [x],n+1):=by
 have hk:vF (s,p,n) [x]=1:=by unfold vF;simp only [List.length_cons,List.length_nil];omega
 unfold Da lJ qG
 rw [hk]
 rfl
theorem DY {h:HS}(ok:ui h) (x:Int):ui (Da h x):=mx ok _
theorem DZ {l:List Int}:∀ {h:HS},ui h->ui (l.foldl Da h):=by
 induction l with
 | nil=>exact λok=>ok
 | cons x l ih=>exact λok=>ih (DY ok x)
theorem AY {s p:List Int}{n:Nat}(hp:p.length=64) (hn:n<64) (l:List Int):∀ k,k<l.length->n+k<64->(l.take (k+1)).foldl Da (s,p,n)=if n+(k+1)=64 then (eP s (dA p n (l.take (k+1))),dA p n (l.take (k+1)),0) else (s,dA p n (l.take (k+1)),n+(k+1))
 | 0,hk,_=>by
  rw [bA (d:=(0:Int)) hk,List.take_zero,List.nil_append,List.foldl_cons,List.foldl_nil,Iv _ hn]
 | k+1,hk,h=>by
  rw [bA (d:=(0:Int)) hk,List.foldl_append,AY hp hn l k za za,if_neg za,List.foldl_cons,List.foldl_nil,Iv _ za]
  have h0:(l.take (k+1)).length=k+1:=by rw [List.length_take];omega
  have e:=Gu (x:=l.getD (k+1) 0) (ys:=l.take (k+1)) (n:=n) hp za
  rw [h0] at e
  rw [e]
  simp only [Nat.add_assoc]
theorem Gv {h:HS}(ok:ui h){l:List Int}(hl:0<l.length):lJ h l=(l.take (vF h l)).foldl Da h:=by
 obtain⟨s,p,n⟩:=h
 have hn:n<64:=ok.n
 have hk:vF (s,p,n) l=min l.length (64-n):=rfl
 obtain⟨k,hk1⟩:∃ k,vF (s,p,n) l=k+1:=⟨vF (s,p,n) l-1,za⟩
 have e:=AY (s:=s) ok.part hn l k za za
 rw [hk1,e]
 unfold lJ qG
 rw [hk1]
theorem Ci:∀ (f:Nat){h:HS}{l:List Int},ui h->l.length<=f->jJ h l=l.foldl Da h
 | f,h,[],ok,_=>Fh zG
 | 0,h,x::l,_,hf=>by simp at hf
 | f+1,h,x::l,ok,hf=>by
  have hk:1<=vF h (x::l):=by unfold vF;have:=ok.n;simp only [List.length_cons];omega
  rw [wH ok zG,Ci f (mx ok _) zM,Gv ok zG,<- List.foldl_append,List.take_append_drop]
theorem wM {h:HS}(ok:ui h) (l:List Int):jJ h l=l.foldl Da h:=Ci l.length ok (Nat.le_refl _)
def oT (m:List Int) (k:Nat):List Int:=(m.drop (64*k)).take 64
def Fi (m:List Int) (k:Nat) (s:List Int):List Int:=iter (λi s=>eP s (oT m i)) k s
theorem Iw {s p c:List Int}(hp:p.length=64) (hc:c.length=64):c.foldl Da (s,p,0)=(eP s c,c,0):=by
 have h:=AY (s:=s) hp (show 0<64 by omega) c 63 za za
 rw [List.take_of_length_le za,if_pos rfl] at h
 have e:dA p 0 c=c:=by unfold dA;rw [List.take_zero,List.nil_append,List.drop_of_length_le za,List.append_nil]
 rw [h,e]
theorem yI {m s p:List Int}(hp:p.length=64):∀ k,64*k<=m.length->∃ p',p'.length=64/\(m.take (64*k)).foldl Da (s,p,0)=(Fi m k s,p',0)
 | 0,_=>⟨p,hp,by rw [Nat.mul_zero,List.take_zero];rfl⟩
 | k+1,h=>by
  obtain⟨p',h1,h2⟩:=yI (m:=m) (s:=s) hp k za
  have hb:(oT m k).length=64:=by unfold oT;rw [List.length_take,List.length_drop];omega
  refine⟨oT m k,hb,?_⟩
  rw [show 64*(k+1)=64*k+64 by omega,List.take_add,List.foldl_append,h2]
  exact Iw h1 hb
theorem yJ:∀ (f:Nat){h:HS},ui h->Mb f h=(List.replicate f (0:Int)).foldl Da h
 | 0,h,_=>rfl
 | f+1,h,ok=>(yJ f (DY ok 0):_)
def qL (n:Int) (y:Nat):List Int:=(List.range y).map (DQ n)
theorem wN (n:Int) (y:Nat):qL n (y+1)=qL n y++[DQ n y]:=by
 unfold qL
 rw [List.range_succ,List.map_append]
 rfl
theorem yK (n:Int){h:HS}:∀ y,Gp n y h=(qL n y).foldl Da h
 | 0=>rfl
 | y+1=>by
  rw [yF,wN,List.foldl_append,<- yK n y]
  rfl
theorem MR {l:List Int}:∀ {h:HS},ui h->(l.foldl Da h).2.2=(h.2.2+l.length) % 64:=by
 induction l with
 | nil=>exact λ{h} ok=>(Nat.mod_eq_of_lt ok.n).symm
 | cons x l ih =>
  intro h ok
  have h1:=uj ok x
  have h2:=ok.n
  rw [List.foldl_cons,ih (DY ok x),show(Da h x).2.2=_ from h1,List.length_cons]
  split<;>omega
def wO (l:List Int):List Int:=(l++[128])++List.replicate ((120-(l.length+1) % 64) % 64) 0
def allM (l:List Int):List Int:=wO l++qL (IntKind.u64.wrap ((l.length:Int)*8)) 8
theorem Cj (l:List Int):(wO l).length=l.length+1+(120-(l.length+1) % 64) % 64:=by
 unfold wO
 simp only [List.length_append,List.length_cons,List.length_nil,List.length_replicate]
theorem AZ (n:Int) (y:Nat):(qL n y).length=y:=by unfold qL;rw [List.length_map,List.length_range]
theorem vc (l:List Int):(allM l).length=l.length+1+(120-(l.length+1) % 64) % 64+8:=by
 unfold allM
 rw [List.length_append,Cj,AZ]
theorem D0 {n:Nat}(h:n<1000000000000000000):IntKind.u64.wrap (0+(IntKind.u64.wrap (n:Nat)))=(n:Nat):=by
 show(0+(n:Int) % 18446744073709551616) % 18446744073709551616=_
 omega
theorem Kj {l:List Int}(hl:l.length<1000000000000000000):gI l=AR (Fi (allM l) ((allM l).length / 64) cX) 8:=by
 have hz:=vc l
 have hk:64*((allM l).length / 64)=(allM l).length:=za
 obtain⟨p',h1,h2⟩:=yI (m:=allM l) (s:=cX) (p:=List.replicate 64 0) (by rw [List.length_replicate]) _ (Nat.le_of_eq hk)
 rw [hk,List.take_length] at h2
 unfold gI nX
 rw [D0 hl,yK,wM fG,wM (DZ fG)]
 unfold pad
 have h3:((l++[128]).foldl Da Cb).2.2=(l.length+1) % 64:=by
  rw [MR fG,List.length_append]
  show(0+(l.length+1)) % 64=_
  rw [Nat.zero_add]
 rw [<- List.foldl_append,yJ _ (DZ fG),h3,<- List.foldl_append,<- List.foldl_append]
 have h4:(allM l).foldl Da Cb=(Fi (allM l) ((allM l).length / 64) cX,p',0):=h2
 unfold allM wO at h4 ⊢
 rw [<- List.append_assoc (l++[128]),h4]
theorem Kl {h:HS}(ok:ui h) (a b:List Int):jJ (jJ h a) b=jJ h (a++b):=by
 rw [wM ok,wM (DZ ok),wM ok,List.foldl_append]
end Go.Proofs.YtkmhmeldgfpfeaaGreatDoor
namespace Go.Proofs.YtkmhmeldgfpfeaaGreatDoor
open Go.RowKit Go.Sx
set_option linter.unusedVariables false
set_option linter.unusedSimpArgs false
set_option linter.unnecessarySimpa false
set_option maxRecDepth 100000
theorem kJ (k:IntKind) (a b:Int):mL k a b=mL k b a:=by
 unfold mL
 rw [BitVec.or_comm]
theorem MS (x:Int):mS x 2=dD x 2:=kJ .u32 (bF .u32 x 2) (dY .u32 x 30)
theorem MT (x:Int):mS x 6=dD x 6:=kJ .u32 (bF .u32 x 6) (dY .u32 x 26)
theorem MU (x:Int):mS x 7=dD x 7:=kJ .u32 (bF .u32 x 7) (dY .u32 x 25)
theorem Lp (x:Int):mS x 11=dD x 11:=kJ .u32 (bF .u32 x 11) (dY .u32 x 21)
theorem Lr (x:Int):mS x 13=dD x 13:=kJ .u32 (bF .u32 x 13) (dY .u32 x 19)
theorem Lv (x:Int):mS x 17=dD x 17:=kJ .u32 (bF .u32 x 17) (dY .u32 x 15)
theorem LA (x:Int):mS x 18=dD x 18:=kJ .u32 (bF .u32 x 18) (dY .u32 x 14)
theorem LB (x:Int):mS x 19=dD x 19:=kJ .u32 (bF .u32 x 19) (dY .u32 x 13)
theorem LC (x:Int):mS x 22=dD x 22:=kJ .u32 (bF .u32 x 22) (dY .u32 x 10)
theorem LD (x:Int):mS x 25=dD x 25:=kJ .u32 (bF .u32 x 25) (dY .u32 x 7)
theorem D1 {A B i:Nat}(hB:B<2 ^ i) (h:2 ^ i*A+B<4294967296):mL .u32 ((2 ^ i*A:Nat):Int) ((B:Nat):Int)=((2 ^ i*A+B:Nat):Int):=by
 show IntKind.u32.wrap (((BitVec.ofInt 32 ((2 ^ i*A:Nat):Int) ||| BitVec.ofInt 32 ((B:Nat):Int)).toNat:Nat):Int)=_
 rw [BitVec.ofInt_natCast,BitVec.ofInt_natCast,BitVec.toNat_or,BitVec.toNat_ofNat,BitVec.toNat_ofNat,Nat.mod_eq_of_lt za,Nat.mod_eq_of_lt za,<- Nat.two_pow_add_eq_or_of_lt hB A]
 show((2 ^ i*A+B:Nat):Int) % 4294967296=_
 omega
theorem yL {A i:Nat}(hi:i<=32) (h:2 ^ i*A<4294967296):dY .u32 ((A:Nat):Int) ((i:Nat):Int)=((2 ^ i*A:Nat):Int):=by
 show IntKind.u32.wrap ((A:Int)*2 ^ (min (Int.toNat (i:Int)) 32))=_
 rw [Int.toNat_natCast,Nat.min_eq_left hi,show((A:Int)*2 ^ i)=((2 ^ i*A:Nat):Int) by rw [Int.natCast_mul,Int.natCast_pow,Int.mul_comm];rfl]
 show((2 ^ i*A:Nat):Int) % 4294967296=_
 omega
theorem Km {a b c d:Int}(ha:0<=a/\a<256) (hb:0<=b/\b<256) (hc:0<=c/\c<256) (hd:0<=d/\d<256):mL .u32 (dY .u32 (mL .u32 (dY .u32 (mL .u32 (dY .u32 (mL .u32 (dY .u32 0 8) a) 8) b) 8) c) 8) d=mL .u32 (mL .u32 (mL .u32 (dY .u32 a 24) (dY .u32 b 16)) (dY .u32 c 8)) d:=by
 obtain⟨a,rfl⟩:∃ n:Nat,a=n:=⟨a.toNat,za⟩
 obtain⟨b,rfl⟩:∃ n:Nat,b=n:=⟨b.toNat,za⟩
 obtain⟨c,rfl⟩:∃ n:Nat,c=n:=⟨c.toNat,za⟩
 obtain⟨d,rfl⟩:∃ n:Nat,d=n:=⟨d.toNat,za⟩
 have e0:mL .u32 (dY .u32 0 8) (a:Int)=(a:Int):=by
  rw [show dY .u32 0 8=((2 ^ 8*0:Nat):Int) from rfl,D1 za za]
  omega
 have s1:=yL (A:=a) (i:=8) za za
 have o1:=D1 (A:=a) (B:=b) (i:=8) za za
 have s2:=yL (A:=2 ^ 8*a+b) (i:=8) za za
 have o2:=D1 (A:=2 ^ 8*a+b) (B:=c) (i:=8) za za
 have s3:=yL (A:=2 ^ 8*(2 ^ 8*a+b)+c) (i:=8) za za
 have o3:=D1 (A:=2 ^ 8*(2 ^ 8*a+b)+c) (B:=d) (i:=8) za za
 have t1:=yL (A:=a) (i:=24) za za
 have t2:=yL (A:=b) (i:=16) za za
 have t3:=yL (A:=c) (i:=8) za za
 have p1:=D1 (A:=a) (B:=2 ^ 16*b) (i:=24) za za
 have p2:=D1 (A:=2 ^ 8*a+b) (B:=2 ^ 8*c) (i:=16) za za
 have p3:=D1 (A:=2 ^ 8*(2 ^ 8*a+b)+c) (B:=d) (i:=8) za za
 rw [show(8:Int)=((8:Nat):Int) from rfl,show(24:Int)=((24:Nat):Int) from rfl,show(16:Int)=((16:Nat):Int) from rfl]
 rw [show((8:Nat):Int)=(8:Int) from rfl,e0,show(8:Int)=((8:Nat):Int) from rfl,s1,o1,s2,o2,s3,o3,t1,t2,t3,p1,show 2 ^ 24*a+2 ^ 16*b=2 ^ 16*(2 ^ 8*a+b) by omega,p2,show 2 ^ 16*(2 ^ 8*a+b)+2 ^ 8*c=2 ^ 8*(2 ^ 8*(2 ^ 8*a+b)+c) by omega,p3]
def eW (bl:List Int) (k:Nat):Int:=mL .u32 (dY .u32 (mL .u32 (dY .u32 (mL .u32 (dY .u32 (mL .u32 (dY .u32 0 8) (IntKind.u32.wrap (bl.getD (4*k) 0))) 8) (IntKind.u32.wrap (bl.getD (4*k+1) 0))) 8) (IntKind.u32.wrap (bl.getD (4*k+2) 0))) 8) (IntKind.u32.wrap (bl.getD (4*k+3) 0))
def fW (bl:List Int) (k:Nat):Int:=mL .u32 (mL .u32 (mL .u32 (dY .u32 (IntKind.u32.wrap (bl.getD (4*k) 0)) 24) (dY .u32 (IntKind.u32.wrap (bl.getD (4*k+1) 0)) 16)) (dY .u32 (IntKind.u32.wrap (bl.getD (4*k+2) 0)) 8)) (IntKind.u32.wrap (bl.getD (4*k+3) 0))
theorem D2 (bl:List Int):sB bl=(List.range 16).map (eW bl)++List.replicate 48 0:=zk
theorem Ck (bl:List Int):vG bl=(List.range 16).map (fW bl)++List.replicate 48 0:=zk
theorem D3 {bl:List Int}(h:∀ z∈bl,0<=z/\z<256) (hl:bl.length=64):vG bl=sB bl:=by
 rw [D2,Ck]
 congr 1
 refine List.map_congr_left λk hk=>?_
 have hk':k<16:=List.mem_range.1 hk
 have hz:∀ j,j<64->(0<=bl.getD j 0/\bl.getD j 0<256)/\IntKind.u32.wrap (bl.getD j 0)=bl.getD j 0:=λj hj=>by
  have h1:=h _ (bC (d:=(0:Int)) (l:=bl) (k:=j) za)
  refine⟨h1,?_⟩
  show bl.getD j 0 % 4294967296=_
  omega
 unfold fW eW
 rw [(hz _ za).2,(hz (4*k+1) za).2,(hz (4*k+2) za).2,(hz (4*k+3) za).2]
 exact(Km (hz _ za).1 (hz _ za).1 (hz _ za).1 (hz _ za).1).symm
theorem wP {α:Type}{f g:Nat->α->α}(h:∀ n a,f n a=g n a) (a:α):∀ n,iter f n a=iter g n a
 | 0=>rfl
 | n+1=>by rw [fF,fF,wP h a n,h]
theorem D4 {bl:List Int}(h:∀ z∈bl,0<=z/\z<256) (hl:bl.length=64):AW bl=lI bl:=by
 unfold AW lI
 rw [D3 h hl]
 exact wP (λn a=>by unfold tA wG;simp only [MS,MT,MU,Lp,Lr,Lv,LA,LB,LC,LD]) _ 48
theorem Gw {l:List Int}(h:l.length=8):l=[l.getD 0 0,l.getD 1 0,l.getD 2 0,l.getD 3 0,l.getD 4 0,l.getD 5 0,l.getD 6 0,l.getD 7 0]:=by
 have h2:=Ir l
 rw [h] at h2
 exact h2
theorem vd (ws:List Int) (t:T8):∀ k,iter (qK ws) k (uY t)=uY (iter (DN ws) k t)
 | 0=>rfl
 | k+1=>by
  rw [fF,fF,vd ws t k]
  generalize iter (DN ws) k t=u
  unfold qK DN
  simp only [MS,MT,MU,Lp,Lr,Lv,LA,LB,LC,LD]
  rfl
theorem D5 {s bl:List Int}(hs:s.length=8) (h:∀ z∈bl,0<=z/\z<256) (hl:bl.length=64):AX s bl=eP s bl:=by
 unfold AX eP wL
 rw [D4 h hl]
 have e:s=uY (s.getD 0 0,s.getD 1 0,s.getD 2 0,s.getD 3 0,s.getD 4 0,s.getD 5 0,s.getD 6 0,s.getD 7 0):=Gw hs
 generalize hT:(s.getD 0 0,s.getD 1 0,s.getD 2 0,s.getD 3 0,s.getD 4 0,s.getD 5 0,s.getD 6 0,s.getD 7 0)=t at e ⊢
 rw [e,vd]
 generalize iter (DN (lI bl)) 64 t=u
 have q1:iter (Iu (uY t)) 8 (uY u)=[IntKind.u32.wrap (u.1+t.1),IntKind.u32.wrap (u.2.1+t.2.1),IntKind.u32.wrap (u.2.2.1+t.2.2.1),IntKind.u32.wrap (u.2.2.2.1+t.2.2.2.1),IntKind.u32.wrap (u.2.2.2.2.1+t.2.2.2.2.1),IntKind.u32.wrap (u.2.2.2.2.2.1+t.2.2.2.2.2.1),IntKind.u32.wrap (u.2.2.2.2.2.2.1+t.2.2.2.2.2.2.1),IntKind.u32.wrap (u.2.2.2.2.2.2.2+t.2.2.2.2.2.2.2)]:=rfl
 have q2:iter (Ik (uY u)) 8 (uY t)=[IntKind.u32.wrap (t.1+u.1),IntKind.u32.wrap (t.2.1+u.2.1),IntKind.u32.wrap (t.2.2.1+u.2.2.1),IntKind.u32.wrap (t.2.2.2.1+u.2.2.2.1),IntKind.u32.wrap (t.2.2.2.2.1+u.2.2.2.2.1),IntKind.u32.wrap (t.2.2.2.2.2.1+u.2.2.2.2.2.1),IntKind.u32.wrap (t.2.2.2.2.2.2.1+u.2.2.2.2.2.2.1),IntKind.u32.wrap (t.2.2.2.2.2.2.2+u.2.2.2.2.2.2.2)]:=rfl
 rw [q1,q2]
 simp only [Int.add_comm]
section
variable {w0 w : World} {L : List cA} {ad : Option Addr} {c : Nat}
theorem A0 s bl (hs8:s.length=8) (hb:bl.length=64) (hbb:∀ z∈bl,0<=z/\z<256) (hs:St w0 L w) :
 Cs Tryz.prog 94 #[.agg (af bM s),.agg (af aA bl)] w λrv w'=>rv=.agg (af bM (eP s bl))/\St w0 L w':=by
 rw [<- D5 hs8 hbb hb]
 exact Ch s bl hs8 hb hs
def Cl (q:List Int):List Int:=q++List.replicate ((120-q.length % 64) % 64) 0
theorem Gx (l:List Int):Cl (l++[128])=wO l:=by
 unfold Cl wO
 rw [List.length_append]
 rfl
theorem Gy {q:List Int}(h:q.length % 64≠56):Cl (q++[0])=Cl q:=by
 unfold Cl
 rw [List.length_append,List.append_assoc,show(120-q.length % 64) % 64=(120-(q.length+[(0:Int)].length) % 64) % 64+1 by simp only [List.length_cons,List.length_nil];omega,List.replicate_succ]
 rfl
theorem Ix {q:List Int}(h:q.length % 64=56):Cl q=q:=by
 unfold Cl
 rw [h]
 exact List.append_nil q
theorem D6 {l:List Int}{y:Nat}{z:Int}(hl:l.length<=100000) (hy:y<8) (hz:z=7-(y:Nat)):qL (IntKind.u64.wrap ((l.length:Int)*8)) y++[IntKind.u8.wrap (bF .u64 (IntKind.u64.wrap ((IntKind.u64.wrap (l.length:Nat))*8)) (IntKind.u64.wrap (8*z)))]=qL (IntKind.u64.wrap ((l.length:Int)*8)) (y+1):=by
 rw [wN]
 unfold DQ
 rw [show IntKind.u64.wrap (l.length:Nat)=(l.length:Nat) from kn za za,show IntKind.u64.wrap (8*z)=8*(7-(y:Int)) from by rw [kn za za,hz]]
theorem Iy {l:List Int}(h:∀ z∈l,0<=z/\z<256):∀ z∈allM l,0<=z/\z<256:=by
 intro z hz
 unfold allM wO qL at hz
 simp only [List.mem_append,List.mem_cons,List.not_mem_nil,or_false,List.mem_replicate,List.mem_map] at hz
 rcases hz with((hz|rfl)|⟨-,rfl⟩)|⟨y,-,rfl⟩
 ·exact h z hz
 ·omega
 ·omega
 ·unfold DQ
  show 0<=(_:Int) % 256/\(_:Int) % 256<256
  omega
def Nh (q:List Int) (m2 k3:Nat) (x3s:List Int):List Int:=x3s.set k3 (q.getD (m2+k3) 0)
theorem Fj {q:List Int}{m:Nat}(h:m+64<=q.length):∀ k,k<=64->iter (Nh q m) k (List.replicate 64 0)=(q.drop m).take k++List.replicate (64-k) 0
 | 0,_=>by rw [List.take_zero];rfl
 | k+1,hk=>by
  rw [fF,Fj h k za]
  unfold Nh
  have h0:((q.drop m).take k).length=k:=by rw [List.length_take,List.length_drop];omega
  rw [List.set_append_right _ _ za,h0,Nat.sub_self,show 64-k=(64-(k+1))+1 by omega,List.replicate_succ,List.set_cons_zero,bA (d:=(0:Int)) zM,List.append_assoc,show(q.drop m).getD k 0=q.getD (m+k) 0 from by rw [List.getD_eq_getElem?_getD,List.getD_eq_getElem?_getD,List.getElem?_drop]]
  rfl
theorem Cm {q:List Int}{m:Nat}(h:m+64<=q.length):iter (Nh q m) 64 (List.replicate 64 0)=(q.drop m).take 64:=by
 rw [Fj h 64 (Nat.le_refl _)]
 exact List.append_nil _
def Iz (s2:List Int) (k4:Nat) (x4:List Int):List Int:=x4.set k4 (IntKind.u8.wrap (bF .u32 (s2.getD (Int.toNat ((k4:Nat) / 4)) (0:Int)) (IntKind.u64.wrap (24-(8*((k4:Nat) % 4))))))
def IA (x:Int):List Int:=[IntKind.u8.wrap (bF .u32 x 24),IntKind.u8.wrap (bF .u32 x 16),IntKind.u8.wrap (bF .u32 x 8),IntKind.u8.wrap (bF .u32 x 0)]
theorem IB (x:Int):IA x=Cc x:=by
 unfold IA Cc
 rw [show bF .u32 x 0=x from by show x.fdiv (2 ^ 0)=x;exact Int.fdiv_one ..]
def LH (s:List Int) (k:Nat):List Int:=iter (λi l=>dA l (4*i) (IA (s.getD i 0))) k (List.replicate 32 0)
theorem IC (s:List Int):iter (Iz s) 32 (List.replicate 32 0)=LH s 8:=zk
theorem Kn (s:List Int):iter (Iz s) 32 (List.replicate 32 0)=AR s 8:=by
 rw [IC]
 unfold LH AR
 simp only [IB]
theorem zD {p:Prop}(h:p:=by first|omega|(simp only [List.length_append,List.length_cons,List.length_nil,bY];omega)):p:=h
theorem rG l (hl:l.length<=100000) (hn:ad=none->c=0) (hb:∀ z∈l,0<=z/\z<256) (hr:Rw w0 L aA 1 0 ad l) (hs:St w0 L w):Cs Tryz.prog 35 #[.slice ad l.length c] w λrv w'=>rv=.agg (af aA (gI l))/\St w0 L w':=by
 refine cL Tryz.func35 Tryz.ntmps35 (En (Ls (Lg [0] (Dz (eN sK hs λu w2 b5=>Lo (Ld (Lt (Ls (Lg [0,2,3,4] (Dz (Aw aP aF b5 λb4 w5 b0=>Lo (Lw (aU.append rfl zk aP aF (ad:=some ⟨b4,0,none⟩) (c:=0) (xs:=([]:List Int)) (ys:=l) (adx:=ad) (cx:=c) (0:Int) zk b0 (hr _ (b0.drop 2)) hn zD zD λg9 h0 w9 b6=>Lo (Dz (tQ aP aF [(128:Int)] b6 λh1 h2 b7=>Lo (Dz (oV aP aF (0:Int) (b7.pl 1) zD λb9 c2 h3 c3=>Lz (Ls (Lb (Dz ?_))))))))))))))))))))
 have c4:=((c3.pl 2).pl 1).pl 2
 refine bH.loop (T:=(List Int)×(Option Addr)×Nat) (λgg=>[(0,.slice ad l.length c),(2,zP u 0),(3,.slice gg.2.1 gg.1.length gg.2.2)]) (λgg w=>(gg.1.length+(120-gg.1.length % 64) % 64<=l.length+64/\Cl gg.1=wO l)/\St w0 (Sl gg.2.1 gg.2.2 5 1 aA gg.1::aC u sK 44::L) w) (λgg=>(120-gg.1.length % 64) % 64) ((l++([(128:Int)])),b9,c2) [0,2,3] zk ⟨⟨zb,Gx l⟩,c4.dr 1⟩ ?_
 rintro⟨q0,c6,c0⟩ h4 ⟨hpa,a5⟩
 dsimp only at hpa a5
 refine Zs (Zs (cS (Hg 2 (.div ((q0.length:Nat) % 64)) [.prop (IntKind.i64=IntKind.i64/\(64:Int)≠0/\Int.tmod (q0.length:Nat) 64=(q0.length:Nat) % 64)] (aL ⟨rfl,zf,Int.tmod_eq_emod_of_nonneg (by first|omega|exact Int.natCast_nonneg _)⟩ aO) Hz) (Zt (cZ (t:=(((q0.length:Nat) % 64):Int) != 56) (λa6=>?_) (λa6=>?_)))))
 ·have c7:=tU a6
  refine En (Lk (Lt (Lb (Lg [1,2] (Lw (tQ aP aF [(0:Int)] a5 λh5 h6 c8=>Lo (Dz (oV aP aF (0:Int) (c8.pl 1) zD λd0 d1 h7 d2=>Lo (bO (Lm (Dz ?_)))))))))))
  have d3:=((d2.pl 2).pl 1).pl 2
  exact aN.back (q0++([(0:Int)]),d0,d1) [0,2,3] zk (by show(120-(q0++([(0:Int)])).length % 64) % 64<(120-q0.length % 64) % 64;simp only [List.length_append,List.length_cons,List.length_nil];omega) ⟨⟨zb,(Gy za).trans hpa.2⟩,d3.dr 1⟩
 ·have c7:=sR a6
  refine En (Lx (kD (kE (Lh (Lt (Lq (Ls (Lq (Lb (Dz ?_))))))))))
  have d5:q0=wO l:=(Ix za).symm.trans hpa.2
  refine bH.loop (T:=Nat×Int×(List Int)×(Option Addr)×Nat) (λgg=>[(2,zP u 0),(3,.slice gg.2.2.2.1 gg.2.2.1.length gg.2.2.2.2),(4,.int .u64 (IntKind.u64.wrap ((IntKind.u64.wrap (l.length:Nat))*8))),(5,.int .i64 gg.2.1)]) (λgg w=>(gg.1<=8/\gg.2.1=7-(gg.1:Nat)/\gg.2.2.1=wO l++qL (IntKind.u64.wrap ((l.length:Int)*8)) gg.1/\gg.2.2.1.length=q0.length+gg.1)/\St w0 (Sl gg.2.2.2.1 gg.2.2.2.2 5 1 aA gg.2.2.1::aC u sK 44::L) w) (λgg=>8-gg.1) (0,7,q0,c6,c0) [2,3,4,5] zk ⟨⟨by first|omega|(simp only;omega),by first|omega|(simp only;omega),by rw [d5];exact(List.append_nil _).symm,rfl⟩,a5⟩ ?_
  rintro⟨y1,z1,q1,h8,c1⟩ h9 ⟨hpb,a7⟩
  dsimp only at hpb a7
  refine En (Ls (Lq (Dz (Zi ((z1:Int) >= 0) (λd6=>?_) (λd6=>?_)))))
  ·refine Zk (Zt (Zs (Zb (bX [7,8] (dW 3 (8*z1) (Hg 5 (.shift (bF .u64 (IntKind.u64.wrap ((IntKind.u64.wrap (l.length:Nat))*8)) (IntKind.u64.wrap (8*z1)))) [.prop ((0:Int)<=IntKind.u64.wrap (8*z1)/\Int.fdiv (IntKind.u64.wrap ((IntKind.u64.wrap (l.length:Nat))*8)) (2 ^ (min (Int.toNat (IntKind.u64.wrap (8*z1))) (IntKind.bits .u64)))=bF .u64 (IntKind.u64.wrap ((IntKind.u64.wrap (l.length:Nat))*8)) (IntKind.u64.wrap (8*z1)))] (aL ⟨(by first|omega|exact bW rfl _),rfl⟩ aO) Hz)) (tQ aP aF [(IntKind.u8.wrap (bF .u64 (IntKind.u64.wrap ((IntKind.u64.wrap (l.length:Nat))*8)) (IntKind.u64.wrap (8*z1))):Int)] a7 λi0 i1 d7=>Lo (Dz (oV aP aF (0:Int) (d7.pl 1) zD λd9 e0 i2 e1=>Lo (bO (Lm (Lt (Dz (cS (dW 1 (z1-1) Hz) ?_))))))))))))
   have e2:=((e1.pl 2).pl 1).pl 2
   exact aN.back (y1+1,z1-1,q1++([(IntKind.u8.wrap (bF .u64 (IntKind.u64.wrap ((IntKind.u64.wrap (l.length:Nat))*8)) (IntKind.u64.wrap (8*z1))):Int)]),d9,e0) [2,3,4,5] zk (by show 8-(y1+1)<8-y1;omega) ⟨(by refine⟨by first|omega|(simp only;omega),by first|omega|(simp only;omega),?_⟩;refine⟨?_,by simp only [List.length_append,List.length_cons,List.length_nil];omega⟩;show q1++_=_;rw [hpb.2.2.1,List.append_assoc];exact congrArg (wO l++·) (D6 hl za hpb.2.1)),e2.dr 1⟩
  ·refine En (Lx (kD (kE (Lh (Lt (Ls (Lg [0,1,2] (Dz (dE (f:=93) (args:=#[]) Tryz.call93 (Cg a7) ?_)))))))))
   rintro i3 i4 ⟨rfl,e4⟩
   refine Lo (Dz (eN LS e4 λx i5 e5=>Lo (Dz (Zu 0 0 MF e5 λe6 b2=>Lo (Ld (Lt (Ls (Lq (Lb (Dz ?_))))))))))
   have a8:q1=allM l:=by rw [hpb.2.2.1,show y1=8 by omega];rfl
   have hqb:∀ z∈q1,0<=z/\z<256:=by rw [a8];exact Iy hb
   have e7:=vc l
   rw [<- a8] at e7
   have i6:q1.length % 64=0/\0<q1.length/\q1.length<=1000000000:=za
   obtain⟨a0,rfl⟩:=Sl.isSome (b2.at_ 1 rfl) za
   have e8:St w0 (aC x (af bM cX) 147::Sl (some ⟨a0,0,none⟩) c1 5 1 aA q1::aC u sK 44::L) e6:=Eq.mp zk b2
   refine bH.loop (T:=Nat×(List Int)) (λgg=>[(2,zP u 0),(3,zL a0 0 q1.length c1),(6,zP x 0),(7,.int .i64 (gg.1:Nat))]) (λgg w=>(gg.1 % 64=0/\gg.1<=q1.length/\gg.2=Fi q1 (gg.1 / 64) cX/\gg.2.length=8)/\St w0 (aC x (af bM gg.2) 147::Sl (some ⟨a0,0,none⟩) c1 5 1 aA q1::aC u sK 44::L) w) (λgg=>q1.length-gg.1) (0,cX) [2,3,6,7] zk ⟨⟨rfl,Nat.zero_le _,rfl,rfl⟩,e8⟩ ?_
   rintro⟨i,e⟩ i7 ⟨hpc,a9⟩
   dsimp only at hpc a9
   refine En (Ls (Lq (Dz (Zi ((i:Int)<(q1.length:Nat)) (λe9=>?_) (λe9=>?_)))))
   ·refine En (Lk (Lt (Ls (Lb (Ls (Lg [0] (Dz (eN #[.int .u8 0,.int .u8 0,.int .u8 0,.int .u8 0,.int .u8 0,.int .u8 0,.int .u8 0,.int .u8 0,.int .u8 0,.int .u8 0,.int .u8 0,.int .u8 0,.int .u8 0,.int .u8 0,.int .u8 0,.int .u8 0,.int .u8 0,.int .u8 0,.int .u8 0,.int .u8 0,.int .u8 0,.int .u8 0,.int .u8 0,.int .u8 0,.int .u8 0,.int .u8 0,.int .u8 0,.int .u8 0,.int .u8 0,.int .u8 0,.int .u8 0,.int .u8 0,.int .u8 0,.int .u8 0,.int .u8 0,.int .u8 0,.int .u8 0,.int .u8 0,.int .u8 0,.int .u8 0,.int .u8 0,.int .u8 0,.int .u8 0,.int .u8 0,.int .u8 0,.int .u8 0,.int .u8 0,.int .u8 0,.int .u8 0,.int .u8 0,.int .u8 0,.int .u8 0,.int .u8 0,.int .u8 0,.int .u8 0,.int .u8 0,.int .u8 0,.int .u8 0,.int .u8 0,.int .u8 0,.int .u8 0,.int .u8 0,.int .u8 0,.int .u8 0] a9 λa1 f0 f1=>Lo (Ld (Lt (Ls (Lq (Lb (Dz ?_))))))))))))))
    have f2:St w0 (aC a1 (af aA (List.replicate 64 0)) 149::aC x (af bM e) 147::Sl (some ⟨a0,0,none⟩) c1 5 1 aA q1::aC u sK 44::L) f0:=Eq.mp zk f1
    refine bH.loop (T:=Nat×(List Int)) (λgg=>[(2,zP u 0),(3,zL a0 0 q1.length c1),(6,zP x 0),(7,.int .i64 (i:Nat)),(8,zP a1 0),(9,.int .i64 (gg.1:Nat))]) (λgg w=>(gg.1<=64/\gg.2=iter (Nh q1 i) gg.1 (List.replicate 64 0)/\gg.2.length=64)/\St w0 (aC a1 (af aA gg.2) 149::aC x (af bM e) 147::Sl (some ⟨a0,0,none⟩) c1 5 1 aA q1::aC u sK 44::L) w) (λgg=>64-gg.1) (0,(List.replicate 64 0)) [2,3,6,7,8,9] zk ⟨⟨Nat.le_of_ble_eq_true rfl,rfl,rfl⟩,f2⟩ ?_
    rintro⟨o,x3s⟩ i8 ⟨hpd,a3⟩
    dsimp only at hpd a3
    refine En (Ls (Lq (Dz (Zi ((o:Int)<64) (λf3=>?_) (λf3=>?_)))))
    ·exact Zk (Zt (Zs (Zb (bX [8] (dW 4 ((i:Nat)+(o:Nat)) (Hx 5 (((i:Nat)+(o:Nat)):Int) (q1.length:Int) a0 0 1 (Hg 6 (.gen [.int .u8 (q1.getD (i+o) 0)]) [.cell ⟨a0,0+((i+o)*1),none⟩ (.int .u8 (q1.getD (i+o) 0))] (bP (aB.dX (a3.rows 2 rfl aF.size (0:Int)) (k:=(i+o)) zo (j:=0) zf zk) aO) (Hx 7 (o:Int) (64:Int) a1 0 1 Hz)))) (aU.store rfl rfl zk (b:=a1) (off:=0+(o*1)) (v:=.int .u8 (q1.getD (i+o) 0)) zk zk (ti:=Tryz.t5) zk a3 0 rfl zk zk (by rw [Nat.zero_add];exact fN (f:=aA) (size:=1) (l:=x3s) (k:=o) aF.size zo) (cs':=af aA (x3s.set o (q1.getD (i+o) 0))) (L':=(aC a1 (af aA (x3s.set o (q1.getD (i+o) 0))) 149)::aC x (af bM e) 147::Sl (some ⟨a0,0,none⟩) c1 5 1 aA q1::aC u sK 44::L) (by rw [Nat.zero_add];exact eT (f:=aA) (size:=1) (l:=x3s) (k:=o) aF.size zo (q1.getD (i+o) 0)) rfl λi9 f4=>Lo (Ld (Lm (Lt (Dz (cS (dW 1 ((o:Nat)+1) Hz) (aN.back (o+1,x3s.set o (q1.getD (i+o) 0)) [2,3,6,7,8,9] zk (by show 64-(o+1)<64-o;omega) ⟨⟨za,by rw [fF,<- hpd.2.1];rfl,by first|rfl|(simp only [List.length_set];omega)⟩,f4⟩)))))))))))
    ·refine Zx (aN.cJ (aN.fJ (aN.iT (Zt (bX [2,3] (Hg 0 (.agg (af bM e)) [.prop (Array.size (af bM e)=8),.cells ⟨x,0,none⟩ (af bM e)] (aL (bQ bN (show(e).length=8 from zu) rfl) (eM (a3.cells 1 0 rfl zG) aO)) (Hg 1 (.agg (af aA x3s)) [.prop (Array.size (af aA x3s)=64),.cells ⟨a1,0,none⟩ (af aA x3s)] (aL (bQ aF (show(x3s).length=64 from zu) rfl) (eM (a3.cells 0 0 rfl zG) aO)) Hz)) (dE (f:=94) (args:=#[.agg (af bM e),.agg (af aA x3s)]) Tryz.call94 (A0 e x3s (by first|assumption|omega|(simp only [List.length_set];omega)|rfl) (by first|assumption|omega|(simp only [List.length_set];omega)|rfl) (by rw [hpd.2.1,show o=64 by omega,Cm za];exact λz hz=>hqb z (List.mem_of_mem_drop (List.mem_of_mem_take hz))) a3) ?_))))))
     rintro j0 j1 ⟨rfl,f5⟩
     exact Lo (Dz (aU.store rfl rfl zk (b:=x) (off:=0) (v:=.agg (af bM (eP e x3s))) zk zk (ti:=Tryz.t147) zk f5 1 rfl (cK bN (show(eP e x3s).length=8 from fB hpc.2.2.2 _) zk) (eQ bN) (eF bN (show(eP e x3s).length=8 from fB hpc.2.2.2 _) (by rw [bQ bN (show(e).length=8 from zu) (m:=8) rfl];rfl)) (cs':=af bM (eP e x3s)) (L':=(aC a1 (af aA x3s) 149)::aC x (af bM (eP e x3s)) 147::Sl (some ⟨a0,0,none⟩) c1 5 1 aA q1::aC u sK 44::L) (eX bN (show(eP e x3s).length=8 from fB hpc.2.2.2 _) (by rw [bQ bN (show(e).length=8 from zu) (m:=8) rfl];rfl)) rfl λj2 f6=>Lo (Ld (Lm (Lt (Dz (cS (dW 1 ((i:Nat)+64) Hz) (aN.back (i+64,eP e x3s) [2,3,6,7] zk (by show q1.length-(i+64)<q1.length-i;omega) ⟨⟨za,za,by show eP e x3s=_;rw [hpd.2.1,show o=64 by omega,Cm za,hpc.2.2.1,show(i+64) / 64=i / 64+1 by omega];show eP _ ((q1.drop i).take 64)=eP _ ((q1.drop (64*(i / 64))).take 64);rw [show 64*(i / 64)=i by omega];rfl,by first|omega|exact fB hpc.2.2.2 _⟩,f6.dr 1⟩))))))))
   ·refine En (Lx (kD (kE (Lh (Lt (Ls (Lg [0] (Dz (eN sK a9 λa2 f8 f9=>Lo (Ld (Lt (Ls (Lq (Lb (Dz ?_)))))))))))))))
    have g0:St w0 (aC a2 (af aA (List.replicate 32 0)) 44::aC x (af bM e) 147::Sl (some ⟨a0,0,none⟩) c1 5 1 aA q1::aC u sK 44::L) f8:=Eq.mp zk f9
    refine bH.loop (T:=Nat×(List Int)) (λgg=>[(2,zP u 0),(6,zP x 0),(10,zP a2 0),(11,.int .i64 (gg.1:Nat))]) (λgg w=>(gg.1<=32/\gg.2=iter (Iz e) gg.1 (List.replicate 32 0)/\gg.2.length=32)/\St w0 (aC a2 (af aA gg.2) 44::aC x (af bM e) 147::Sl (some ⟨a0,0,none⟩) c1 5 1 aA q1::aC u sK 44::L) w) (λgg=>32-gg.1) (0,(List.replicate 32 0)) [2,6,10,11] zk ⟨⟨Nat.le_of_ble_eq_true rfl,rfl,rfl⟩,g0⟩ ?_
    rintro⟨d,q⟩ j3 ⟨hpe,a4⟩
    dsimp only at hpe a4
    refine En (Ls (Lq (Dz (Zi ((d:Int)<32) (λg5=>?_) (λg5=>?_)))))
    ·exact Zk (Zt (Zs (Zb (bX [13] (Hg 2 (.div ((d:Nat) / 4)) [.prop (IntKind.i64=IntKind.i64/\(4:Int)≠0/\IntKind.i64.wrap (Int.tdiv (d:Nat) 4)=(d:Nat) / 4)] (aL ⟨rfl,zf,by rw [Int.tdiv_eq_ediv_of_nonneg za];exact rN za za⟩ aO) (Hx 3 (((d:Nat) / 4):Int) (8:Int) x 0 1 (Hg 4 (.gen [.int .u32 (e.getD (Int.toNat ((d:Nat) / 4)) (0:Int))]) [.cell ⟨x,0+((Int.toNat ((d:Nat) / 4))*1),none⟩ (.int .u32 (e.getD (Int.toNat ((d:Nat) / 4)) (0:Int)))] (bP (aB.dX (aI a4 1 rfl bN.size (0:Int)) (k:=Int.toNat ((d:Nat) / 4)) zo (j:=0) zf zk) aO) (Hg 6 (.div ((d:Nat) % 4)) [.prop (IntKind.i64=IntKind.i64/\(4:Int)≠0/\Int.tmod (d:Nat) 4=(d:Nat) % 4)] (aL ⟨rfl,zf,Int.tmod_eq_emod_of_nonneg (by first|omega|exact Int.natCast_nonneg _)⟩ aO) (dW 7 (8*((d:Nat) % 4)) (dW 8 (24-(8*((d:Nat) % 4))) (Hg 10 (.shift (bF .u32 (e.getD (Int.toNat ((d:Nat) / 4)) (0:Int)) (IntKind.u64.wrap (24-(8*((d:Nat) % 4)))))) [.prop ((0:Int)<=IntKind.u64.wrap (24-(8*((d:Nat) % 4)))/\Int.fdiv (e.getD (Int.toNat ((d:Nat) / 4)) (0:Int)) (2 ^ (min (Int.toNat (IntKind.u64.wrap (24-(8*((d:Nat) % 4))))) (IntKind.bits .u32)))=bF .u32 (e.getD (Int.toNat ((d:Nat) / 4)) (0:Int)) (IntKind.u64.wrap (24-(8*((d:Nat) % 4)))))] (aL ⟨(by first|omega|exact bW rfl _),rfl⟩ aO) (Hx 12 (d:Int) (32:Int) a2 0 1 Hz)))))))) (aU.store rfl rfl zk (b:=a2) (off:=0+(d*1)) (v:=.int .u8 (IntKind.u8.wrap (bF .u32 (e.getD (Int.toNat ((d:Nat) / 4)) (0:Int)) (IntKind.u64.wrap (24-(8*((d:Nat) % 4))))))) zk zk (ti:=Tryz.t5) zk a4 0 rfl zk zk (by rw [Nat.zero_add];exact fN (f:=aA) (size:=1) (l:=q) (k:=d) aF.size zo) (cs':=af aA (q.set d (IntKind.u8.wrap (bF .u32 (e.getD (Int.toNat ((d:Nat) / 4)) (0:Int)) (IntKind.u64.wrap (24-(8*((d:Nat) % 4)))))))) (L':=(aC a2 (af aA (q.set d (IntKind.u8.wrap (bF .u32 (e.getD (Int.toNat ((d:Nat) / 4)) (0:Int)) (IntKind.u64.wrap (24-(8*((d:Nat) % 4)))))))) 44)::aC x (af bM e) 147::Sl (some ⟨a0,0,none⟩) c1 5 1 aA q1::aC u sK 44::L) (by rw [Nat.zero_add];exact eT (f:=aA) (size:=1) (l:=q) (k:=d) aF.size zo (IntKind.u8.wrap (bF .u32 (e.getD (Int.toNat ((d:Nat) / 4)) (0:Int)) (IntKind.u64.wrap (24-(8*((d:Nat) % 4))))))) rfl λj4 g7=>Lo (Ld (Lm (Lt (Dz (cS (dW 1 ((d:Nat)+1) Hz) (aN.back (d+1,q.set d (IntKind.u8.wrap (bF .u32 (e.getD (Int.toNat ((d:Nat) / 4)) (0:Int)) (IntKind.u64.wrap (24-(8*((d:Nat) % 4))))))) [2,6,10,11] zk (by show 32-(d+1)<32-d;omega) ⟨⟨za,by rw [fF,<- hpe.2.1];rfl,by first|rfl|(simp only [List.length_set];omega)⟩,g7⟩)))))))))))
    ·exact Zx (aN.cJ (aN.fJ (aN.iT (Zt (Zs (bX [1] (Hg 0 (.agg (af aA q)) [.prop (Array.size (af aA q)=32),.cells ⟨a2,0,none⟩ (af aA q)] (aL (bQ aF (show(q).length=32 from zu) rfl) (eM (a4.cells 0 0 rfl zG) aO)) Hz) (aU.store rfl rfl zk (b:=u) (off:=0) (v:=.agg (af aA q)) zk zk (ti:=Tryz.t44) zk a4 3 rfl (cK aF (show(q).length=32 from zu) zk) (eQ aF) (eF aF (show(q).length=32 from zu) zk) (cs':=af aA q) (L':=(aC a2 (af aA q) 44)::aC x (af bM e) 147::Sl (some ⟨a0,0,none⟩) c1 5 1 aA q1::aC u (af aA q) 44::L) (eX aF (show(q).length=32 from zu) zk) rfl λj5 b3=>Lo (Ld (Lt (Le (Dz (aN.done (.inl rfl) (v:=.agg (af aA q)) (λa hf=>gW rfl zk (ti:=Tryz.t44) zk zk (vs:=af aA q) (bQ aF (show(q).length=32 from zu) zk) (b3.cells 3 0 rfl zG) a hf) ⟨(by rw [hpe.2.1,show d=32 by omega,Kn,hpc.2.2.1,show i=q1.length by omega,a8,<- Kj za]),b3.dr 4⟩))))))))))))
end
section
variable {w0 w : World} {L : List cA} {ad : Option Addr} {c : Nat}
theorem pg (s:List Int):∀ k,∀ z∈AR s k,0<=z/\z<256
 | 0,z,h=>by
  have:=List.eq_of_mem_replicate (show z∈List.replicate 32 (0:Int) from h)
  omega
 | k+1,z,h=>by
  rw [uk] at h
  unfold dA at h
  have w:∀ x:Int,0<=IntKind.u8.wrap x/\IntKind.u8.wrap x<256:=λx=>by
   show 0<=x % 256/\x % 256<256
   omega
  rcases List.mem_append.1 h with h|h
  ·rcases List.mem_append.1 h with h|h
   ·exact pg s k z (List.mem_of_mem_take h)
   ·simp only [Cc,List.mem_cons,List.not_mem_nil,or_false] at h
    rcases h with rfl|rfl|rfl|rfl<;>exact w _
  ·exact pg s k z (List.mem_of_mem_drop h)
theorem Cn (l:List Int):∀ z∈gI l,0<=z/\z<256:=pg _ 8
theorem A2 {a b:List Int}(ha:a.length<=1000000000) (hb:b.length<=1000000000):hY a b=gI (a++b):=by
 unfold hY gI
 show nX (jJ (jJ Cb a) b) (IntKind.u64.wrap ((IntKind.u64.wrap (0+(IntKind.u64.wrap (a.length:Nat))))+(IntKind.u64.wrap (b.length:Nat))))=_
 rw [Kl fG,List.length_append,D0 za,show IntKind.u64.wrap (b.length:Nat)=(b.length:Nat) from kn za za,kn za za,D0 za]
 rfl
theorem Fk {l:List Int}(h:l.length<=64):DS l=l++List.replicate (64-l.length) 0:=by
 unfold DS mX
 rw [Nat.min_eq_left h,List.take_length,List.take_zero,List.nil_append,Nat.zero_add,List.drop_replicate]
theorem wQ {l:List Int}{bv:Int}(h:l.length<=64) (hb:∀ z∈l,0<=z/\z<256):∀ k,∀ z∈pP l bv k,0<=z/\z<256
 | 0,z,hz=>by
  have hz':z∈DS l:=hz
  rw [Fk h] at hz'
  rcases List.mem_append.1 hz' with h1|h1
  ·exact hb z h1
  ·have:=List.eq_of_mem_replicate h1
   omega
 | k+1,z,hz=>by
  have hz':z∈(pP l bv k).set k (dL .u8 ((pP l bv k).getD k 0) bv):=hz
  rcases List.mem_or_eq_of_mem_set hz' with h1|rfl
  ·exact wQ h hb k z h1
  ·show 0<=(_:Int) % 256/\(_:Int) % 256<256
   omega
theorem wR l bv (hl:l.length<=64) (hn:ad=none->c=0) (hr:Rw w0 L aA 1 0 ad l) (hs:St w0 L w):Cs Tryz.prog 157 #[.slice ad l.length c,.int .u8 bv] w λrv w'=>∃ ao co,rv=.slice ao ((dS l bv).length) co/\St w0 (Sl ao co 5 1 aA (dS l bv)::L) w':=by
 refine cL Tryz.func157 Tryz.ntmps157 (En (Lq (Ls (Lg [0,2] (Dz (Aw aP aF hs λb1 w2 a0=>Lo (Lw (aU.append rfl zk aP aF (ad:=some ⟨b1,0,none⟩) (c:=0) (xs:=([]:List Int)) (ys:=l) (adx:=ad) (cx:=c) (0:Int) zk a0 (hr _ (a0.drop 1)) hn zb zb λa2 c9 w6 a3=>Lz (Ls (Lq (Dz (Zi ((l.length:Int)>64) (λa4=>?_) (λa4=>?_)))))))))))))
 ·exfalso;omega
 ·refine Zk (Zt (Zs (Zb (bH.loop (T:=(List Int)×(Option Addr)×Nat) (λgg=>[(1,.int .u8 bv),(4,.slice none 0 0),(5,.slice gg.2.1 gg.1.length gg.2.2)]) (λgg w=>(l.length<=gg.1.length/\gg.1.length<=64/\gg.1=l++List.replicate (gg.1.length-l.length) 0)/\St w0 (Sl gg.2.1 gg.2.2 5 1 aA gg.1::L) w) (λgg=>64-gg.1.length) (l,a2,c9) [1,4,5] zk ⟨⟨zb,zb,by simp only [List.nil_append,Nat.sub_self,List.replicate_zero,List.append_nil]⟩,a3⟩ ?_))))
  rintro⟨d,b6,q⟩ b7 ⟨hpa,u⟩
  dsimp only at hpa u
  refine En (Ls (Lq (Dz (Zi ((d.length:Int)<64) (λa5=>?_) (λa5=>?_)))))
  ·refine En (Lk (Lt (Lb (Lg [1,2] (Lw (tQ aP aF [(0:Int)] u λb8 b9 a6=>Lo (Dz (oV aP aF (0:Int) (a6.pl 1) zb λa8 a9 c1 b0=>Lo (bO (Lm (Dz ?_)))))))))))
   have b2:=(b0.pl 0).pl 1
   exact aN.back (d++([(0:Int)]),a8,a9) [1,4,5] zk (by show 64-(d++([(0:Int)])).length<64-d.length;simp only [List.length_append,List.length_cons,List.length_nil];omega) ⟨⟨zb,zb,by rw [show(d++[(0:Int)]).length-l.length=(d.length-l.length)+1 by(simp only [List.length_append,List.length_cons,List.length_nil];omega),List.replicate_succ',<- List.append_assoc,<- hpa.2.2]⟩,b2.dr 1⟩
  ·refine En (Lx (kD (kE (Lh (Lt (Ls (Lq (Lb (Dz ?_)))))))))
   have z:d.length=64:=za
   have hqk:d=DS l:=by rw [Fk hl,hpa.2.2,z]
   obtain⟨i,rfl⟩:=Sl.isSome (u.at_ 0 rfl) za
   refine bH.loop (T:=Nat×(List Int)) (λgg=>[(1,.int .u8 bv),(4,.slice none 0 0),(5,zL i 0 d.length q),(7,.int .i64 (gg.1:Nat))]) (λgg w=>(gg.1<=64/\gg.2=pP l bv gg.1/\gg.2.length=64)/\St w0 (Sl (some ⟨i,0,none⟩) q 5 1 aA gg.2::L) w) (λgg=>64-gg.1) (0,d) [1,4,5,7] zk ⟨⟨Nat.zero_le _,hqk,z⟩,u⟩ ?_
   rintro⟨a,e⟩ c2 ⟨hpb,x⟩
   dsimp only at hpb x
   refine En (Ls (Lq (Dz (Zi ((a:Int)<64) (λb4=>?_) (λb4=>?_)))))
   ·exact Zk (Zt (Zs (Zb (bX [9] (Hx 4 (a:Int) (d.length:Int) i 0 1 (Hg 5 (.gen [.int .u8 (e.getD a 0)]) [.cell ⟨i,0+(a*1),none⟩ (.int .u8 (e.getD a 0))] (bP (aB.dX (x.rows 0 rfl aF.size (0:Int)) (k:=a) zo (j:=0) zf zk) aO) (Hx 8 (a:Int) (d.length:Int) i 0 1 Hz))) (aU.rn rfl rfl zk (b:=i) (off:=0+(a*1)) (v:=.int .u8 (dL .u8 (e.getD a 0) bv)) zk zk (ti:=Tryz.t5) zk x 0 aF.size rfl zk zk (by rw [Nat.zero_add];exact lU (f:=aA) (size:=1) (l:=e) (k:=a) (o:=0) (n:=1) aF.size zo zf) (List.length_set ..) (xs':=e.set a (dL .u8 (e.getD a 0) bv)) (by rw [Nat.zero_add];exact jW (f:=aA) (size:=1) (l:=e) (k:=a) (o:=0) aF.size zo (0:Int) (dL .u8 (e.getD a 0) bv) (Nat.le_of_ble_eq_true rfl) zk) (L':=(Sl (some ⟨i,0,none⟩) q 5 1 aA (e.set a (dL .u8 (e.getD a 0) bv)))::L) rfl λc3 b5=>Lo (Ld (Lm (Lt (Dz (cS (dW 1 ((a:Nat)+1) Hz) (aN.back (a+1,e.set a (dL .u8 (e.getD a 0) bv)) [1,4,5,7] zk (by show 64-(a+1)<64-a;omega) ⟨⟨za,by rw [hpb.2.1];rfl,by simp only [List.length_set];omega⟩,b5⟩)))))))))))
   ·refine En (Lx (kD (kE (Lh (Lt (Lq (Le (Dz (bL (v:=zL i 0 d.length q) ?_)))))))))
    have a1:e=dS l bv:=by rw [hpb.2.1,show a=64 by omega];rfl
    exact⟨some ⟨i,0,none⟩,q,by rw [<- a1,hpb.2.2,z],by rw [<- a1];exact x⟩
end
section
variable {w0 w : World} {L : List cA}
theorem Ko {key bl:List Int}(hb:bl.length<=100000):gI (dS key 92++gI (dS key 54++bl))=lL key bl:=by
 unfold lL
 rw [A2 zN zR,A2 zN za]
theorem tB {a b:List Int}(ha:∀ z∈a,0<=z/\z<256) (hb:∀ z∈b,0<=z/\z<256):∀ z∈a++b,0<=z/\z<256:=λz hz=>(List.mem_append.1 hz).elim (ha z) (hb z)
theorem ID (s:ByteArray):∀ z∈cV s,0<=z/\z<256:=by
 intro z hz
 unfold cV at hz
 obtain⟨x,-,rfl⟩:=List.mem_map.1 hz
 have:=x.toNat_lt
 omega
theorem A3 (n:Int):∀ z∈wd n,0<=z/\z<256:=by
 have w:∀ x:Int,0<=IntKind.u8.wrap x/\IntKind.u8.wrap x<256:=λx=>by
  show 0<=x % 256/\x % 256<256
  omega
 intro z hz
 have h:wd n=[FU n 0,FU n 1,FU n 2,FU n 3,FU n 4,FU n 5,FU n 6,FU n 7]:=rfl
 rw [h] at hz
 simp only [List.mem_cons,List.not_mem_nil,or_false] at hz
 rcases hz with rfl|rfl|rfl|rfl|rfl|rfl|rfl|rfl<;>exact w _
theorem zh {p:Prop}(h:p:=by first|omega|(simp only [List.length_append,List.length_cons,List.length_nil,mR,dP,aZ,oA,oB,bY];omega)|assumption|decide):p:=h
theorem zr {p:Prop}(h:p:=by first|omega|(simp only [List.length_append,List.length_cons,List.length_nil,mR,dP,aZ,oA,oB,bY];omega)):p:=h
theorem Co {adk:Option Addr}{ck:Nat}{adb:Option Addr}{cb:Nat}key bl (hkl:key.length<=64) (hnk:adk=none->ck=0) (hbl:bl.length<=50000) (hnb:adb=none->cb=0) (hb1:∀ z∈key,0<=z/\z<256) (hb2:∀ z∈bl,0<=z/\z<256) (hr1:Rw w0 L aA 1 0 adk key) (hr2:Rw w0 L aA 1 0 adb bl) (hs:St w0 L w):Cs Tryz.prog 122 #[.slice adk key.length ck,.slice adb bl.length cb] w λrv w'=>rv=.agg (af aA (lL key bl))/\St w0 L w':=by
 refine cL Tryz.func122 Tryz.ntmps122 (En (Ls (Lg [0] (Dz (eN (bI.cells aK) hs λe w2 a1=>Lo (Ld (Lt (Ls (Lg [1,3,4,5,6] (Lw (Zc (wR key 54 zh hnk (λw h=>hr1 _ (h.drop 1)) a1) ?_)))))))))))
 rintro v7 w8 ⟨a2,a3,rfl,f⟩
 refine Lo (Lw (aU.append rfl zk aP aF (ad:=a2) (c:=a3) (xs:=dS key 54) (ys:=bl) (adx:=adb) (cx:=cb) (0:Int) zk f (hr2 _ (f.drop 2)) hnb zr zr λi o w9 q=>Lo (Dz (eE (rG ((dS key 54)++bl) zh (q.dI 0 rfl) (tB (wQ (by first|omega|assumption) hb1 64) hb2) (λw h=>h.rows 0 rfl aF.size _) q) λb6 a4=>Lo (Dz (eN (bI.cells aK) a4 λd b7 a5=>Lo (Dz (aU.store rfl rfl zk (b:=d) (off:=0) (v:=.agg (af aA (gI ((dS key 54)++bl)))) zk zk (ti:=Tryz.t44) zk a5 0 rfl (cK aF (show(gI ((dS key 54)++bl)).length=32 from(dP _)) zk) (eQ aF) (eF aF (show(gI ((dS key 54)++bl)).length=32 from(dP _)) zk) (cs':=af aA (gI ((dS key 54)++bl))) (L':=(aC d (af aA (gI ((dS key 54)++bl))) 44)::Sl i o 5 1 aA ((dS key 54)++bl)::aC e (bI.cells aK) 44::L) (eX aF (show(gI ((dS key 54)++bl)).length=32 from(dP _)) zk) rfl λb8 a6=>Lo (Ld (Lt (Ls (Dz (ZD (eR [0,2] (.ef 1 (.ef 3 (.ef 4 (.ef 5 .done))))) a6 λb9 a7 c0=>Zj (Hg 2 (.eJ (zL d 0 32 32) (.sub 0 32)) [.prop (((none:Option Operand)=none->(0:Nat)=0)/\((none:Option Operand)=none->(32:Nat)=32)/\(0:Nat)<=32/\(32:Nat)<=32),.prop (Value.slice (some (if 32=0 then Addr.mk d 0 none else (Addr.mk d 0 none).add (0*1))) (32-0) (32-0)=Value.slice (some ⟨d,0,none⟩) 32 32)] (aL ⟨(by first|(intro _;rfl)|(intro hc;cases hc)),(by first|(intro _;rfl)|(intro hc;cases hc)),za,za⟩ (aL (dM _ _ _ _ _ zf) aO)) Hz) (Zc (wR key 92 zh hnk (λw h=>hr1 _ (h.drop 3)) a7) ?_))))))))))))))
 rintro c1 c2 ⟨a8,a9,rfl,u⟩
 exact⟨fM (n:=[.prop (((none:Option Operand)=none->(0:Nat)=0)/\((none:Option Operand)=none->(32:Nat)=32)/\(0:Nat)<=32/\(32:Nat)<=32),.prop (Value.slice (some (if 32=0 then Addr.mk d 0 none else (Addr.mk d 0 none).add (0*1))) (32-0) (32-0)=Value.slice (some ⟨d,0,none⟩) 32 32)]) zk (aL ⟨(by first|(intro _;rfl)|(intro hc;cases hc)),(by first|(intro _;rfl)|(intro hc;cases hc)),za,za⟩ (aL (dM _ _ _ _ _ zf) aO)),(aU.append rfl zk aP aF (ad:=a8) (c:=a9) (xs:=dS key 92) (ys:=gI ((dS key 54)++bl)) (adx:=some ⟨d,0,none⟩) (cx:=32) (0:Int) zk u (aI u 1 rfl aF.size (0:Int)) (λh=>nomatch h) zr zr λb0 b2 c3 x=>Lo (Dz (eE (rG ((dS key 92)++(gI ((dS key 54)++bl))) zh (x.dI 0 rfl) (tB (wQ (by first|omega|assumption) hb1 64) (Cn _)) (λw h=>h.rows 0 rfl aF.size _) x) λc5 b3=>Lo (Dz (aU.store rfl rfl zk (b:=e) (off:=0) (v:=.agg (af aA (gI ((dS key 92)++(gI ((dS key 54)++bl)))))) zk zk (ti:=Tryz.t44) zk b3 3 rfl (cK aF (show(gI ((dS key 92)++(gI ((dS key 54)++bl)))).length=32 from(dP _)) zk) (eQ aF) (eF aF (show(gI ((dS key 92)++(gI ((dS key 54)++bl)))).length=32 from(dP _)) zk) (cs':=af aA (gI ((dS key 92)++(gI ((dS key 54)++bl))))) (L':=(Sl b0 b2 5 1 aA ((dS key 92)++(gI ((dS key 54)++bl))))::aC d (af aA (gI ((dS key 54)++bl))) 44::Sl i o 5 1 aA ((dS key 54)++bl)::aC e (af aA (gI ((dS key 92)++(gI ((dS key 54)++bl))))) 44::L) (eX aF (show(gI ((dS key 92)++(gI ((dS key 54)++bl)))).length=32 from(dP _)) zk) rfl λc6 a0=>Lo (Ld (Lt (Le (Dz (aN.done (.inl rfl) (v:=.agg (af aA (gI ((dS key 92)++(gI ((dS key 54)++bl)))))) (λa hf=>gW rfl zk (ti:=Tryz.t44) zk zk (vs:=af aA (gI ((dS key 92)++(gI ((dS key 54)++bl))))) (bQ aF (show(gI ((dS key 92)++(gI ((dS key 54)++bl)))).length=32 from(dP _)) zk) (a0.cells 3 0 rfl zG) a hf) ⟨(by rw [Ko za]),a0.dr 4⟩))))))))))⟩
end
section
variable {w0 w : World} {L : List cA} {ad : Option Addr} {c : Nat}
theorem D7 l n (hl:l.length<=900000) (hn0:ad=none->c=0) (hn:0<=n/\n<=18446744073709551615) (hr:Rw w0 L aA 1 0 ad l) (hs:St w0 L w):Cs Tryz.prog 111 #[.slice ad l.length c,.int .u64 n,.int .i64 8] w λrv w'=>∃ ao co,rv=.slice ao ((l++wd n).length) co/\St w0 (Sl ao co 5 1 aA (l++wd n)::L) w':=by
 refine enter (args:=[.slice ad l.length c,.int .u64 n,.int .i64 8]) Tryz.func111 rfl Tryz.ntmps111 (Nat.le_of_ble_eq_true zk) (Zn [(0,.slice ad l.length c),(1,.int .u64 n),(2,.int .i64 8)] (Zs (gC (.rd 0 .done) (Zr 0 1 [] (Zd (Zt (Zs (gC (.ef 0 (.rd 1 (.ef 2 (.rd 3 .done)))) (Aw aP aF hs λi w2 d=>⟨jI,Zr 1 1 [] (aU.append rfl zk aP aF (ad:=some ⟨i,0,none⟩) (c:=0) (xs:=([]:List Int)) (ys:=l) (adx:=ad) (cx:=c) (0:Int) zk d (hr _ (d.drop 1)) hn0 (by first|omega|(simp only [List.length_nil];omega)|(rw [hp.2.2,List.length_append,iP];simp only [List.length_cons,List.length_nil];omega)) (by first|omega|(simp only [List.length_nil];omega)|(rw [hp.2.2,List.length_append,iP];simp only [List.length_cons,List.length_nil];omega)) λo u w6 a0=>⟨jI,Zr 3 1 [] (Zd (Zt (Zs (Zs (gC (.rd 0 (.rd 1 (.rd 2 .done))) (Zr 0 3 [] (Zd (Zt (Zb (bH.loop (T:=Nat×Int×(List Int)×(Option Addr)×Nat) (λgg=>[(1,.int .u64 n),(6,.slice none 0 0),(7,.slice gg.2.2.2.1 gg.2.2.1.length gg.2.2.2.2),(8,.int .i64 gg.2.1)]) (λgg w=>(gg.1<=8/\gg.2.1=7-(gg.1:Nat)/\gg.2.2.1=l++AA n gg.1)/\St w0 (Sl gg.2.2.2.1 gg.2.2.2.2 5 1 aA gg.2.2.1::L) w) (λgg=>8-gg.1) (0,7,l,o,u) [1,6,7,8] zk ⟨⟨by first|omega|(simp only;omega),by first|omega|(simp only;omega),by simp only [List.nil_append];exact(List.append_nil _).symm⟩,a0⟩ ?_))))))))))⟩)⟩)))))))))
 rintro⟨x,z,q,e,f⟩ a9 ⟨hp,a⟩
 dsimp only at hp a
 refine Zs (Zs (gC (.rd 0 (.rd 1 .done)) (Zr 0 2 [] (Zd (Zt (cZ (t:=decide ((z:Int) >= 0)) (λb=>?_) (λb=>?_)))))))
 ·have a1:=of_decide_eq_true b
  refine Zk (Zt (Zs (Zb (gC (.rd 0 (.rd 1 (.rd 2 (.rd 3 (.rd 4 (.rd 5 (.rd 6 (.ef 7 (.ef 8 (.rd 9 .done)))))))))) (Zp 0 7 [(3,.eJ (.int .i64 (8*z)) (.gen [])),(5,.shift (bF .u64 n (IntKind.u64.wrap (8*z))))] [(3,[.prop (Value.int .i64 (IntKind.i64.wrap (8*z))=Value.int .i64 (8*z))]),(5,[.prop ((0:Int)<=IntKind.u64.wrap (8*z)/\Int.fdiv n (2 ^ (min (Int.toNat (IntKind.u64.wrap (8*z))) (IntKind.bits .u64)))=bF .u64 n (IntKind.u64.wrap (8*z)))])] (ak (aL (kF za za) aO) (ak (aL ⟨(by first|omega|exact bW rfl _),rfl⟩ aO) gQ)) (tQ aP aF [(IntKind.u8.wrap (bF .u64 n (IntKind.u64.wrap (8*z))):Int)] a λb0 b2 a2=>⟨jI,(oV aP aF (0:Int) (a2.pl 1) (by first|omega|(simp only [List.length_nil];omega)|(rw [hp.2.2,List.length_append,iP];simp only [List.length_cons,List.length_nil];omega)) λa4 a5 b3 a6=>⟨jI,Zr 9 1 [] (Zd (Zm (Zt (gC (.rd 0 (.rd 1 (.rd 2 .done))) (Zp 0 3 [(1,.eJ (.int .i64 (z-1)) (.gen []))] [(1,[.prop (Value.int .i64 (IntKind.i64.wrap (z-1))=Value.int .i64 (z-1))])] (ak (aL (kF za za) aO) gQ) (Zd ?_))))))⟩)⟩))))))
  have a7:=(a6.pl 0).pl 1
  exact aN.back (x+1,z-1,q++([(IntKind.u8.wrap (bF .u64 n (IntKind.u64.wrap (8*z))):Int)]),a4,a5) [1,6,7,8] zk (by show 8-(x+1)<8-x;omega) ⟨(by refine⟨by first|omega|(simp only;omega),by first|omega|(simp only;omega),?_⟩;rw [hp.2.2,List.append_assoc,hp.2.1];exact congrArg (l++·) (B3 n x za)),a7.dr 1⟩
 ·have a1:=of_decide_eq_false b
  refine Zx (aN.cJ (aN.fJ (aN.iT (Zt (Zs (gC (.rd 0 (.rd 1 .done)) (Zr 0 2 [] (Zd (Zt (Ze (bL (v:=.slice e q.length f) ?_)))))))))))
  have hx:x=8:=za
  have hq:q=l++wd n:=by rw [hp.2.2,hx];rfl
  subst hq
  exact⟨e,f,rfl,a⟩
theorem Cp l n (hl:l.length<=900000) (hn0:ad=none->c=0) (hn:0<=n/\n<=18446744073709551615) (hr:Rw w0 L aA 1 0 ad l) (hs:St w0 L w):Cs Tryz.prog 56 #[.slice ad l.length c,.int .u64 n] w λrv w'=>∃ ao co,rv=.slice ao ((l++wd n).length) co/\St w0 (Sl ao co 5 1 aA (l++wd n)::L) w':=by
 refine enter (args:=[.slice ad l.length c,.int .u64 n]) Tryz.func56 rfl Tryz.ntmps56 (Nat.le_of_ble_eq_true zk) (Zn [(0,.slice ad l.length c),(1,.int .u64 n)] (Zs (gC (.rd 0 .done) (Zr 0 1 [] (Zd (Zt (Zs (gC (.rd 0 (.rd 1 (.ef 2 (.rd 3 .done)))) (Zr 0 2 [] (dE (f:=111) (args:=#[.slice ad l.length c,.int .u64 n,.int .i64 8]) Tryz.call111 (D7 l n zh hn0 za (λw h=>hr _ (h.drop 0)) hs) ?_))))))))))
 rintro e i ⟨a,b,rfl,d⟩
 exact⟨jI,Zr 3 1 [] (Zd (Zt (Ze (bL (v:=.slice a ((l++wd n).length) b) ⟨a,b,rfl,d⟩))))⟩
theorem Fl {wrd:ByteArray}{i:Int}(h:wrd.size<=1000):gI (cV wrd++wd i)=uo wrd i:=by
 unfold uo
 rw [A2 (by rw [bY];omega) (by rw [List.nil_append,aZ];decide),List.nil_append]
theorem IE (wrd:ByteArray) (i:Int):∀ z∈uo wrd i,0<=z/\z<256:=pg _ 8
theorem yM wrd i most (hi:1<=i) (him:i<=most) (hmost:most<=100) (hws:wrd.size<=1000) (hwz:wrd.size<=1000000000) (hs:St w0 L w):Cs Tryz.prog 158 #[.string wrd,.int .i64 i,.int .i64 most] w λrv w'=>∃ ao co,rv=.slice ao ((uo wrd i).length) co/\St w0 (Sl ao co 5 1 aA (uo wrd i)::L) w':=by
 refine enter (args:=[.string wrd,.int .i64 i,.int .i64 most]) Tryz.func158 rfl Tryz.ntmps158 (Nat.le_of_ble_eq_true zk) (Zn [(0,.string wrd),(1,.int .i64 i),(2,.int .i64 most)] (Zs (gC (.rd 0 .done) (Zr 0 1 [] (Zd (Zt (Zs (Zs (bH.join (T:=Unit) (E:=λ_=>[(14,.bool ((decide ((i:Int)<1)) || (decide ((i:Int)>most)))),(6,.slice none 0 0),(0,.string wrd),(1,.int .i64 i)]) (F:=λ_ w=>St w0 L w) ?_ ?_)))))))))
 ·refine gC (.rd 0 (.rd 1 (.rd 2 (.rd 3 (.rd 4 (.rd 5 (.rd 6 .done))))))) (Zr 0 3 [] (dB 10 (decide ((i:Int)<1)) (λo=>?_) (λo=>?_)))
  ·exact Zr 3 4 [] (Zd (gB [14,6,0,1] () true (by first|rfl|simp [Hb,o]) hs))
  ·exact Zr 3 4 [] (Zd (gB [14,6,0,1] () (decide ((i:Int)>most)) (by first|rfl|simp [Hb,o]) hs))
 intro _ w2 a6
 refine Zt (cZ (t:=(decide ((i:Int)<1)) || (decide ((i:Int)>most))) (λq=>?_) (λq=>?_))
 ·exfalso;rcases Bool.or_eq_true_iff.1 q with d|d
  ·have:=of_decide_eq_true d;omega
  ·have:=of_decide_eq_true d;omega
 ·have a7:=(Bool.or_eq_false_iff.1 q).1
  have a8:(decide ((i:Int)>most))=false:=(Bool.or_eq_false_iff.1 q).2
  refine Zk (Zt (Zs (gC (.rd 0 (.ef 1 (.rd 2 (.rd 3 (.ef 4 (.ef 5 (.ef 6 (.ef 7 .done)))))))) (Zr 0 1 [] (aU.Cf rfl zk (src:=9) (dst:=25) (e:=5) (f:=aA) rfl wrd zk zk zk zk hwz a6 λu x w7 a9=>?_)))))
  have hsb:=bY wrd
  refine⟨jI,Zp 2 2 [(3,.eJ (.int .u64 i) (.gen []))] [(3,[.prop (Value.int .u64 (IntKind.u64.wrap i)=Value.int .u64 i)])] (ak (aL (BR za za) aO) gQ) (dE (f:=56) (args:=#[zL u 0 ((cV wrd).length) ((cV wrd).length+x),.int .u64 i]) Tryz.call56 (Cp (cV wrd) i zh (λh=>nomatch h) za (λw h=>vb h 0 rfl) a9) ?_)⟩
  rintro c0 c1 ⟨z,a0,rfl,a1⟩
  refine⟨jI,dE (f:=35) (args:=#[.slice z (((cV wrd)++wd i).length) a0]) Tryz.call35 (rG ((cV wrd)++wd i) zh (a1.dI 0 rfl) (tB (ID _) (A3 _)) (λw h=>h.rows 0 rfl aF.size _) a1) ?_⟩
  rintro c2 c3 ⟨rfl,b0⟩
  refine⟨jI,(eN (bI.cells aK) b0 λa c4 b1=>⟨jI,(aU.store rfl rfl zk (b:=a) (off:=0) (v:=.agg (af aA (gI ((cV wrd)++wd i)))) zk zk (ti:=Tryz.t44) zk b1 0 rfl (cK aF (show(gI ((cV wrd)++wd i)).length=32 from(dP _)) zk) (eQ aF) (eF aF (show(gI ((cV wrd)++wd i)).length=32 from(dP _)) zk) (cs':=af aA (gI ((cV wrd)++wd i))) (L':=(aC a (af aA (gI ((cV wrd)++wd i))) 44)::Sl z a0 5 1 aA ((cV wrd)++wd i)::aC u (af aA (cV wrd++List.replicate x 0)) 5::L) (eX aF (show(gI ((cV wrd)++wd i)).length=32 from(dP _)) zk) rfl λc5 b2=>⟨jI,Zd (Zt (Zs (gC (.ef 0 (.rd 1 (.ef 2 (.rd 3 .done)))) (Aw aP aF b2 λb3 c6 a2=>⟨jI,Zp 1 1 [(1,.eJ (zL a 0 32 32) (.sub 0 32))] [(1,[.prop (((none:Option Operand)=none->(0:Nat)=0)/\((none:Option Operand)=none->(32:Nat)=32)/\(0:Nat)<=32/\(32:Nat)<=32),.prop (Value.slice (some (if 32=0 then Addr.mk a 0 none else (Addr.mk a 0 none).add (0*1))) (32-0) (32-0)=Value.slice (some ⟨a,0,none⟩) 32 32)])] (ak (aL ⟨(by first|(intro _;rfl)|(intro hc;cases hc)),(by first|(intro _;rfl)|(intro hc;cases hc)),za,za⟩ (aL (dM _ _ _ _ _ zf) aO)) gQ) (aU.append rfl zk aP aF (ad:=some ⟨b3,0,none⟩) (c:=0) (xs:=([]:List Int)) (ys:=gI ((cV wrd)++wd i)) (adx:=some ⟨a,0,none⟩) (cx:=32) (0:Int) zk a2 (aI a2 1 rfl aF.size (0:Int)) (λh=>nomatch h) zr zr λa3 a4 c7 b4=>⟨jI,Zr 3 1 [] (Zd (Zt (Ze (bL (v:=.slice a3 ((gI ((cV wrd)++wd i)).length) a4) ?_))))⟩)⟩))))⟩)⟩)⟩
  have b6:=(((b4.pl 0).pl 3).pl 3).pl 3
  exact⟨a3,a4,by simp only [Fl hws,oA,dP,List.length_append,List.length_nil,Nat.zero_add],by have d:=(b6.dr 3);rw [List.nil_append,Fl hws] at d;exact d⟩
end
section
variable {w0 w : World} {L : List cA}
theorem Gz i (hi:1<=i) (him:i<=11) (hs:St w0 L w):Cs Tryz.prog 127 #[.int .i64 i] w λrv w'=>∃ ao co,rv=.slice ao ((lB i).length) co/\St w0 (Sl ao co 5 1 aA (lB i)::L) w':=by
 refine cL Tryz.func127 Tryz.ntmps127 (En (Lq (Ls (Lg [1] (Lw (Zc (yM (⟨#[114,97,116,99,104,101,116,32,114,101,112,108,105,99,97]⟩:ByteArray) i 11 za za za zf zf hs) ?_))))))
 rintro e f ⟨a,b,rfl,d⟩
 exact Lz (Le (Dz (bL (v:=.slice a ((uo (⟨#[114,97,116,99,104,101,116,32,114,101,112,108,105,99,97]⟩:ByteArray) i).length) b) ⟨a,b,rfl,d⟩)))
theorem GA {adb:Option Addr}{cb:Nat}i n bl (hi:1<=i) (him:i<=11) (hn:0<=n/\n<18446744073709551616) (hb:bl.length<=2000) (hnb:adb=none->cb=0) (hb2:∀ z∈bl,0<=z/\z<256) (hr:Rw w0 L aA 1 0 adb bl) (hs:St w0 L w):Cs Tryz.prog 76 #[.int .i64 i,.int .u64 n,.slice adb bl.length cb] w λrv w'=>rv=.agg (af aA (Kh i n bl))/\St w0 L w':=by
 refine cL Tryz.func76 Tryz.ntmps76 (En (Ls (Lg [0] (Dz (eN (bI.cells aK) hs λe w2 u=>Lo (Ld (Lt (Ls (Lg [1,3,5,6,7] (Lw (Zc (Gz i za za u) ?_)))))))))))
 rintro v7 w8 ⟨x,a0,rfl,a1⟩
 refine Lo (Lw (dE (f:=56) (args:=#[.slice none (([]:List Int).length) 0,.int .u64 n]) Tryz.call56 (gK ([]:List Int) n zh za (St.bJ a1 5 1 aA)) ?_))
 rintro a9 b0 ⟨a3,a4,rfl,o⟩
 exact Lo (Lw (aU.append rfl zk aP aF (ad:=a3) (c:=a4) (xs:=([]:List Int)++wd n) (ys:=bl) (adx:=adb) (cx:=cb) (0:Int) zk o (hr _ (o.drop 3)) hnb zr zr λa5 a6 b2 d=>Lo (Dz (eE (Co (lB i) ((([]:List Int)++wd n)++bl) zh (d.dI 1 rfl) zh (d.dI 0 rfl) (IE _ _) (tB (tB (λz hz=>nomatch hz) (A3 _)) hb2) (λw h=>h.rows 1 rfl aF.size _) (λw h=>h.rows 0 rfl aF.size _) d) λb4 a7=>Lo (Dz (aU.store rfl rfl zk (b:=e) (off:=0) (v:=.agg (af aA (lL (lB i) ((([]:List Int)++wd n)++bl)))) zk zk (ti:=Tryz.t44) zk a7 2 rfl (cK aF (show(lL (lB i) ((([]:List Int)++wd n)++bl)).length=32 from(gY _ _)) zk) (eQ aF) (eF aF (show(lL (lB i) ((([]:List Int)++wd n)++bl)).length=32 from(gY _ _)) zk) (cs':=af aA (lL (lB i) ((([]:List Int)++wd n)++bl))) (L':=(Sl a5 a6 5 1 aA ((([]:List Int)++wd n)++bl))::Sl x a0 5 1 aA (lB i)::aC e (af aA (lL (lB i) ((([]:List Int)++wd n)++bl))) 44::L) (eX aF (show(lL (lB i) ((([]:List Int)++wd n)++bl)).length=32 from(gY _ _)) zk) rfl λb5 q=>Lo (Ld (Lt (Le (Dz (aN.done (.inl rfl) (v:=.agg (af aA (lL (lB i) ((([]:List Int)++wd n)++bl)))) (λa hf=>gW rfl zk (ti:=Tryz.t44) zk zk (vs:=af aA (lL (lB i) ((([]:List Int)++wd n)++bl))) (bQ aF (show(lL (lB i) ((([]:List Int)++wd n)++bl)).length=32 from(gY _ _)) zk) (q.cells 2 0 rfl zG) a hf) ⟨rfl,q.dr 3⟩)))))))))))
theorem wS {adb:Option Addr}{cb:Nat}(i n:Int) bl (hi:1<=i) (him:i<=11) (hn:0<=n/\n<18446744073709551616) (hb:bl.length<=2000) (hnb:adb=none->cb=0) (hb2:∀ z∈bl,0<=z/\z<256) (hr:Rw w0 L aA 1 0 adb bl) (hs:St w0 L w) :
 Cs Tryz.prog 76 #[.int .i64 i,.int .u64 n,.slice adb bl.length cb] w λrv w'=>rv=.agg (bI.cells (nD i n bl))/\St w0 L w':=by
 rw [nD,<- HQ (qJ i n bl)]
 exact GA i n bl hi him hn hb hnb hb2 hr hs
theorem GB {adb:Option Addr}{cb:Nat}i n bl t (hi:1<=i) (him:i<=11) (hn1:1<=n) (hn2:n<=65536) (hb:bl.length<=1024) (hnb:adb=none->cb=0) (hb2:∀ z∈bl,0<=z/\z<256) (hr:Rw w0 L aA 1 0 adb bl) (hs:St w0 L w):Cs Tryz.prog 110 #[.int .i64 i,.int .u64 n,.slice adb bl.length cb,.agg (bI.cells t)] w λrv w'=>rv=.bool (decide (t=nD i n bl))/\St w0 L w':=by
 refine cL Tryz.func110 Tryz.ntmps110 (En (Ls (Lg [0] (Dz (hG (bI.cells t) hs λe w2 o=>Lz (Ls (Dz (ZD (eR [0,1,2,3,4,5,6,7,8,9,10,11,12,13,14,15,16,17,18,19,20,21,22,23] (.ef 24 (eR [25,26,27] .done))) o λw4 a a3=>Zr 0 3 [] (C9 11 ((i:Int) >= 1) (λq=>?_) (λq=>?_))))))))))
 ·refine Zr 3 4 [] (C9 15 ((i:Int)<=11) (λu=>?_) (λu=>?_))
  ·refine Zr 7 4 [] (C9 19 ((n:Int) >= 1) (λx=>?_) (λx=>?_))
   ·refine Zr 11 4 [] (C9 23 ((n:Int)<=65536) (λa0=>?_) (λa0=>?_))
    ·refine Zr 15 5 [] (C9 28 ((bl.length:Int)<=1024) (λa1=>?_) (λa1=>?_))
     ·refine Zj (fE 20 0 0 32 (bI.cells t) a Hz) (dE (f:=76) (args:=#[.int .i64 i,.int .u64 n,.slice adb bl.length cb]) Tryz.call76 (wS i n bl za za za zh hnb hb2 (λw h=>hr _ (h.drop 1)) a) ?_)
      rintro a4 a5 ⟨rfl,d⟩
      exact⟨fM (n:=[.prop (Array.size (bI.cells t)=32),.cells ⟨e,0,none⟩ (bI.cells t)]) zk (aL zk (eM (d.cells 0 0 rfl zk) aO)),aU.jO rfl zk (b:=true) (t:=44) (xs:=bI.cells t) (ys:=bI.cells (nD i n bl)) (m:=2) zk zk zf zk (r:=decide (t=(nD i n bl))) (lE  (yv t (nD i n bl))) (En (bO (Lt (Le (Dz (bL (v:=.bool (decide (t=(nD i n bl)))) ⟨rfl,d.dr 1⟩))))))⟩
     ·exfalso;omega
    ·exfalso;omega
   ·exfalso;omega
  ·exfalso;omega
 ·exfalso;omega
end
section
variable {w0 w : World} {L : List cA}
def eY (m:aD):Bool:=if dN m=true then decide (m.tg=nD m.og m.nr (kX m)) else false
theorem NC {a b:Int}(ha:0<=a/\a<256) (hb:0<=b/\b<256):0<=dL .u8 a b/\dL .u8 a b<256/\(dL .u8 a b=0↔a=b):=by
 obtain⟨a,rfl⟩:∃ n:Nat,a=n:=⟨a.toNat,za⟩
 obtain⟨b,rfl⟩:∃ n:Nat,b=n:=⟨b.toNat,za⟩
 have e:dL .u8 (a:Int) (b:Int)=((a ^^^ b:Nat):Int):=by
  show IntKind.u8.wrap (((BitVec.ofInt 8 (a:Int) ^^^ BitVec.ofInt 8 (b:Int)).toNat:Nat):Int)=_
  rw [BitVec.ofInt_natCast,BitVec.ofInt_natCast,BitVec.toNat_xor,BitVec.toNat_ofNat,BitVec.toNat_ofNat,Nat.mod_eq_of_lt za,Nat.mod_eq_of_lt za]
  have h:=Nat.xor_lt_two_pow (n:=8) (x:=a) (y:=b) za za
  show((a ^^^ b:Nat):Int) % 256=_
  omega
 have h:=Nat.xor_lt_two_pow (n:=8) (x:=a) (y:=b) za za
 rw [e]
 refine⟨za,za,⟨λd=>?_,λd=>?_⟩⟩
 ·have f:a ^^^ b=0:=za
  have i:a ^^^ (a ^^^ b)=b:=by rw [<- Nat.xor_assoc,Nat.xor_self,Nat.zero_xor]
  rw [f,Nat.xor_zero] at i
  omega
 ·have:a=b:=za
  subst this
  rw [Nat.xor_self]
  rfl
theorem N3 {a b:Int}(ha:0<=a/\a<256) (hb:0<=b/\b<256):0<=mL .u8 a b/\mL .u8 a b<256/\(mL .u8 a b=0↔a=0/\b=0):=by
 obtain⟨a,rfl⟩:∃ n:Nat,a=n:=⟨a.toNat,za⟩
 obtain⟨b,rfl⟩:∃ n:Nat,b=n:=⟨b.toNat,za⟩
 have h:=Nat.or_lt_two_pow (n:=8) (x:=a) (y:=b) za za
 have e:mL .u8 (a:Int) (b:Int)=((a ||| b:Nat):Int):=by
  show IntKind.u8.wrap (((BitVec.ofInt 8 (a:Int) ||| BitVec.ofInt 8 (b:Int)).toNat:Nat):Int)=_
  rw [BitVec.ofInt_natCast,BitVec.ofInt_natCast,BitVec.toNat_or,BitVec.toNat_ofNat,BitVec.toNat_ofNat,Nat.mod_eq_of_lt za,Nat.mod_eq_of_lt za]
  show((a ||| b:Nat):Int) % 256=_
  omega
 rw [e]
 refine⟨za,za,⟨λi=>?_,λi=>?_⟩⟩
 ·have d:a ||| b=0:=za
  have f:a<=a ||| b:=Nat.left_le_or
  have o:b<=a ||| b:=Nat.right_le_or
  omega
 ·have d:a=0:=za
  have f:b=0:=za
  subst d f
  rfl
theorem Cq {x y:List Int}(hx:∀ j,0<=x.getD j 0/\x.getD j 0<256) (hy:∀ j,0<=y.getD j 0/\y.getD j 0<256):∀ k,(0<=yH x y k/\yH x y k<256)/\(yH x y k=0↔∀ j,j<k->x.getD j 0=y.getD j 0)
 | 0=>⟨by show(0:Int)<=0/\(0:Int)<256;omega,λ_ j h=>absurd h (Nat.not_lt_zero _),λ_=>rfl⟩
 | k+1=>by
  have ih:=Cq hx hy k
  have h1:=NC (hx k) (hy k)
  have h2:=N3 ih.1 ⟨h1.1,h1.2.1⟩
  refine⟨⟨h2.1,h2.2.1⟩,?_⟩
  show mL .u8 (yH x y k) (dL .u8 (x.getD k 0) (y.getD k 0))=0↔_
  rw [h2.2.2,ih.2,h1.2.2]
  constructor
  ·intro h j hj
   by_cases e:j=k
   ·subst e;exact h.2
   ·exact h.1 j za
  ·exact λh=>⟨λj hj=>h j za,h k za⟩
theorem Cr {l:List Int}(h:∀ z∈l,0<=z/\z<256) (j:Nat):0<=l.getD j 0/\l.getD j 0<256:=by
 by_cases hj:j<l.length
 ·exact h _ (bC (d:=(0:Int)) hj)
 ·rw [List.getD_eq_getElem?_getD,List.getElem?_eq_none za]
  decide
theorem IF {t v:bI}(ht:∀ z∈t.toList,0<=z/\z<256) (hv:∀ z∈v.toList,0<=z/\z<256):wJ t.toList v.toList=decide (t=v):=by
 have h:=(Cq (Cr ht) (Cr hv) 32).2
 unfold wJ
 by_cases e:t=v
 ·subst e
  rw [decide_eq_true rfl,h.2 λ_ _=>rfl]
  rfl
 ·rw [decide_eq_false e]
  refine beq_eq_false_iff_ne.2 λa=>e ?_
  have b:=h.1 a
  have d:t.toList=v.toList:=List.ext_getElem (by rw [bI.len,bI.len]) λj hj hj'=>by
   rw [bI.len] at hj
   have:=b j hj
   rw [List.getD_eq_getElem?_getD,List.getD_eq_getElem?_getD,List.getElem?_eq_getElem (by rw [bI.len];exact hj),List.getElem?_eq_getElem (by rw [bI.len];exact hj)] at this
   exact this
  exact(qx t).symm.trans ((congrArg oN d).trans (qx v))
theorem Fm {l:List Int}(h:l.length=32):(oN l).toList=l:=by
 unfold oN
 exact List.take_left' h
theorem Ct (i n:Int) (bl:List Int):∀ z∈(nD i n bl).toList,0<=z/\z<256:=by
 unfold nD
 rw [Fm (qJ i n bl)]
 exact pg _ 8
theorem wT m (hm:dw m) (hTab:∀ w,St w0 L w->jX w) (hr:Rw w0 L bS.cells 2 cD m.bd.qa m.bd.ql) (hs:St w0 L w):Cs Tryz.prog 50 #[.agg (aD.cells m)] w λrv w'=>rv=.bool (eY m)/\St w0 L w':=by
 refine cL Tryz.func50 Tryz.ntmps50 (En (Ls (Lg [0] (Dz (hG (aD.cells m) hs λe w2 o=>Lz (Ls (Dz (ZD (.rd 0 (.ef 1 (eR [2,3,4,5,6,7,9,10] (.ef 8 (.ef 11 (eR [12,13] .done)))))) o λw4 i a0=>Zj (fE 0 0 0 121 (aD.cells m) i Hz) (dE (f:=98) (args:=#[.agg (aD.cells m)]) Tryz.call98 (wB m zc (λw h=>hr _ (h.drop 1)) i) ?_)))))))))
 rintro v8 w9 ⟨rfl,a⟩
 refine Lo (Dz (Zr 2 1 [] (dB 5 (dN m) (λd=>?_) (λd=>?_))))
 ·have hmt:=pf d
  have htl:=gA d
  have htb:∀ z∈kX m,0<=z/\z<256:=tj hm
  have hby:jU m=kX m:=if_pos d
  have hbl:(jU m).length<=1024:=by rw [hby];omega
  refine Zj (Hl 4 0 0 a (Hl 6 0 1 a (fE 7 0 0 121 (aD.cells m) a (fE 10 0 89 32 (bI.cells m.tg) a Hz)))) (dE (f:=100) (args:=#[.agg (aD.cells m)]) Tryz.call100 (qB m zc (by assumption) (λw h=>hr _ (h.drop 1)) a) ?_)
  rintro a1 a2 ⟨a3,a4,rfl,b⟩
  exact⟨fM (n:=[.prop (Array.size (bI.cells m.tg)=32),.cells ⟨e,89,none⟩ (bI.cells m.tg),.cell ⟨e,1,none⟩ (.int .u64 m.nr),.cell ⟨e,0,none⟩ (.int .i64 m.og)]) zk (aL zk (eM (b.cells 1 89 rfl zk) (bP (b.cell 1 rfl zk) (bP (b.cell 1 rfl zk) aO)))),(eE (Gt m.og m.nr (kX m) m.tg za za za za za (b.dI 0 rfl) (Sl.cap (b.at_ 0 rfl)) (λw h=>hTab w (h.drop 2)) (λw h=>h.rows 0 rfl aF.size _) b) λa6 q=>Lz (Le (Dz (bL (v:=.bool (wJ m.tg.toList (nD m.og m.nr (kX m)).toList)) ⟨(by unfold eY;rw [if_pos (by assumption),IF hm.tg (Ct _ _ _)]),q.dr 2⟩))))⟩
 ·exact En (Lw (gH (gH (En (bO (Lt (Le (Dz (bL (v:=.bool false) ⟨(by unfold eY;rw [if_neg (by simp [*])]),a.dr 1⟩)))))))))
theorem ve m (hm:dw m) (hr:Rw w0 L bS.cells 2 cD m.bd.qa m.bd.ql) (hs:St w0 L w):Cs Tryz.prog 55 #[.agg (aD.cells m)] w λrv w'=>rv=.bool (eY m)/\St w0 L w':=by
 refine cL Tryz.func55 Tryz.ntmps55 (En (Ls (Lg [0] (Dz (hG (aD.cells m) hs λe w2 o=>Lz (Ls (Dz (ZD (.rd 0 (.ef 1 (eR [2,3,4,5,6,7,9,10] (.ef 8 (.ef 11 (eR [12,13] .done)))))) o λw4 i a0=>Zj (fE 0 0 0 121 (aD.cells m) i Hz) (dE (f:=58) (args:=#[.agg (aD.cells m)]) Tryz.call58 (nM m zc (λw h=>hr _ (h.drop 1)) i) ?_)))))))))
 rintro v8 w9 ⟨rfl,a⟩
 refine Lo (Dz (Zr 2 1 [] (dB 5 (dN m) (λd=>?_) (λd=>?_))))
 ·have hmt:=pf d
  have htl:=gA d
  have htb:∀ z∈kX m,0<=z/\z<256:=tj hm
  have hby:jU m=kX m:=if_pos d
  have hbl:(jU m).length<=1024:=by rw [hby];omega
  refine Zj (Hl 4 0 0 a (Hl 6 0 1 a (fE 7 0 0 121 (aD.cells m) a (fE 10 0 89 32 (bI.cells m.tg) a Hz)))) (dE (f:=77) (args:=#[.agg (aD.cells m)]) Tryz.call77 (oz m zc (λw h=>hr _ (h.drop 1)) a) ?_)
  rintro a1 a2 ⟨a3,a4,rfl,b⟩
  exact⟨fM (n:=[.prop (Array.size (bI.cells m.tg)=32),.cells ⟨e,89,none⟩ (bI.cells m.tg),.cell ⟨e,1,none⟩ (.int .u64 m.nr),.cell ⟨e,0,none⟩ (.int .i64 m.og)]) zk (aL zk (eM (b.cells 1 89 rfl zk) (bP (b.cell 1 rfl zk) (bP (b.cell 1 rfl zk) aO)))),(eE (GB m.og m.nr (jU m) m.tg za za za za za (b.dI 0 rfl) (by rw [hby];exact htb) (λw h=>h.rows 0 rfl aF.size _) b) λa6 q=>Lz (Le (Dz (bL (v:=.bool (decide (m.tg=nD m.og m.nr (jU m)))) ⟨(by unfold eY;rw [if_pos (by assumption),hby]),q.dr 2⟩))))⟩
 ·exact En (Lw (gH (gH (En (bO (Lt (Le (Dz (bL (v:=.bool false) ⟨(by unfold eY;rw [if_neg (by simp [*])]),a.dr 1⟩)))))))))
end
section
variable {w0 w : World} {L : List cA}
def oP (n:Int):Bool :=
 ((decide ((n:Int) >= 3)) && (decide ((n:Int)<=11))) && (((n % 2):Int) == 1)
theorem yN n (hn:-9223372036854775808<=n/\n<=9223372036854775807) (hs:St w0 L w):Cs Tryz.prog 28 #[.int .i64 n] w λrv w'=>rv=.bool (oP n)/\St w0 L w':=by
 refine cL Tryz.func28 Tryz.ntmps28 (En (Lq (Ls (Dz (bH.join (T:=Unit) (E:=λ_=>[(2,.bool (((decide ((n:Int) >= 3)) && (decide ((n:Int)<=11))) && (((n % 2):Int) == 1)))]) (F:=λ_ w=>St w0 L w) ?_ ?_)))))
 ·refine Zg [] (Zr 0 3 [] (dB 5 (decide ((n:Int) >= 3)) (λa=>?_) (λa=>?_)))
  ·have e:=of_decide_eq_true a
   refine Zr 3 4 [] ?_
   refine dB 9 (decide ((n:Int)<=11)) (λb=>?_) (λb=>?_)
   ·have f:(n:Int)<=11:=of_decide_eq_true b
    exact lD (Hg 8 (.div (n % 2)) [.prop (IntKind.i64=IntKind.i64/\(2:Int)≠0/\Int.tmod n 2=n % 2)] (aL ⟨rfl,zf,Int.tmod_eq_emod_of_nonneg (by first|omega|exact Int.natCast_nonneg _)⟩ aO) Hz) (gB [2] () (((n % 2):Int) == 1) (by first|rfl|simp [Hb,a,b]) hs)
   ·exact En (bO (Dz (gB [2] () false (by first|rfl|simp [Hb,a,b]) hs)))
  ·exact En (bO (Dz (gB [2] () false (by first|rfl|simp [Hb,a]) hs)))
 intro _ i d
 exact Zt (Ze (bL (v:=.bool (((decide ((n:Int) >= 3)) && (decide ((n:Int)<=11))) && (((n % 2):Int) == 1))) (qj (by rw [oP]) d)))
def yO (n:Int):Bool :=
 ((decide ((n:Int) >= 3)) && (decide ((n:Int)<=11))) && (((n % 2):Int) == 1)
theorem yP n (hn:-9223372036854775808<=n/\n<=9223372036854775807) (hs:St w0 L w):Cs Tryz.prog 33 #[.int .i64 n] w λrv w'=>rv=.bool (yO n)/\St w0 L w':=by
 refine cL Tryz.func33 Tryz.ntmps33 (En (Lq (Ls (Dz (bH.join (T:=Unit) (E:=λ_=>[(2,.bool (((decide ((n:Int) >= 3)) && (decide ((n:Int)<=11))) && (((n % 2):Int) == 1)))]) (F:=λ_ w=>St w0 L w) ?_ ?_)))))
 ·refine Zg [] (Zr 0 3 [] (dB 5 (decide ((n:Int) >= 3)) (λa=>?_) (λa=>?_)))
  ·have e:=of_decide_eq_true a
   refine Zr 3 4 [] ?_
   refine dB 9 (decide ((n:Int)<=11)) (λb=>?_) (λb=>?_)
   ·have f:(n:Int)<=11:=of_decide_eq_true b
    exact lD (Hg 8 (.div (n % 2)) [.prop (IntKind.i64=IntKind.i64/\(2:Int)≠0/\Int.tmod n 2=n % 2)] (aL ⟨rfl,zf,Int.tmod_eq_emod_of_nonneg (by first|omega|exact Int.natCast_nonneg _)⟩ aO) Hz) (gB [2] () (((n % 2):Int) == 1) (by first|rfl|simp [Hb,a,b]) hs)
   ·exact En (bO (Dz (gB [2] () false (by first|rfl|simp [Hb,a,b]) hs)))
  ·exact En (bO (Dz (gB [2] () false (by first|rfl|simp [Hb,a]) hs)))
 intro _ i d
 exact Zt (Ze (bL (v:=.bool (((decide ((n:Int) >= 3)) && (decide ((n:Int)<=11))) && (((n % 2):Int) == 1))) (qj (by rw [yO]) d)))
def mB (n:Int) (m:aD) (k:Int) (d:bI):Bool :=
 if (decide ((m.og:Int)<=n))=true then
  if ((m.bd.kd:Int) == 6)=true then
   if ((m.bd.k:Int) == k)=true then
    if (decide (m.bd.dg=d))=true then
     eY m
    else
     false
   else
    false
  else
   false
 else
  false
theorem Cu n m k d (hm:dw m) (hTab:∀ w,St w0 L w->jX w) (hr:Rw w0 L bS.cells 2 cD m.bd.qa m.bd.ql) (hs:St w0 L w):Cs Tryz.prog 53 #[.int .i64 n,.agg (aD.cells m),.int .u64 k,.agg (bI.cells d)] w λrv w'=>rv=.bool (mB n m k d)/\St w0 L w':=by
 refine cL Tryz.func53 Tryz.ntmps53 (En (Ls (Lg [0,1] (Dz (hG (aD.cells m) hs λb1 w2 a2=>Lo (Dz (hG (bI.cells d) a2 λb4 w5 q=>Lz (Ls (Dz (bX [2,3] (fE 1 1 13 76 (aV.cells m.bd) q Hz) (eN (aV.cells vC) q λb7 w8 a3=>Lo (Dz (Zu 0 0 (aV.cells m.bd) a3 λa9 a=>Lo (Ld (Lt (Ls (Lg [23] (Dz (gS 0 5 (Hl 1 2 0 a Hz) (dB 16 (decide ((m.og:Int)<=n)) (λe=>?_) (λe=>?_)))))))))))))))))))))
 ·refine gS 5 5 (Hl 6 0 0 a Hz) (dB 21 ((m.bd.kd:Int) == 6) (λf=>?_) (λf=>?_))
  ·refine gS 10 6 (Hl 11 0 2 a Hz) (dB 27 ((m.bd.k:Int) == k) (λi=>?_) (λi=>?_))
   ·refine Zp 16 3 [(17,.agg (bI.cells m.bd.dg)),(18,.agg (bI.cells d))] [(17,[.prop (Array.size (bI.cells m.bd.dg)=32),.cells ⟨b7,44,none⟩ (bI.cells m.bd.dg)]),(18,[.prop (Array.size (bI.cells d)=32),.cells ⟨b4,0,none⟩ (bI.cells d)])] (ak (aL zk (eM (a.cells 0 44 rfl zk) aO)) (ak (aL zk (eM (a.cells 1 0 rfl zk) aO)) gQ)) (aU.jO rfl zk (b:=true) (t:=44) (xs:=bI.cells m.bd.dg) (ys:=bI.cells d) (m:=2) zk zk zf zk (r:=decide (m.bd.dg=d)) (lE  (yv m.bd.dg d)) (Zr 20 2 [] (dB 33 (decide (m.bd.dg=d)) (λo=>?_) (λo=>?_))))
    ·exact Zj (fE 22 2 0 121 (aD.cells m) a Hz) (eE (wT m zc (λw h=>hTab w (h.drop 3)) (λw h=>hr _ (h.drop 3)) a) λb2 a8=>Lz (Le (Dz (bL (v:=.bool (eY m)) (qj (by rw [mB,if_pos e,if_pos f,if_pos i,if_pos o]) (a8.dr 3))))))
    ·exact En (Lw (gH (En (bO (Lt (Le (Dz (bL (v:=.bool false) (qj (by rw [mB,if_pos e,if_pos f,if_pos i,nI o]) (a.dr 3))))))))))
   ·exact En (Lw (gH (En (bO (Lt (Le (Dz (bL (v:=.bool false) (qj (by rw [mB,if_pos e,if_pos f,nI i]) (a.dr 3))))))))))
  ·exact En (Lw (gH (En (bO (Lt (Le (Dz (bL (v:=.bool false) (qj (by rw [mB,if_pos e,nI f]) (a.dr 3))))))))))
 ·exact En (Lw (gH (En (bO (Lt (Le (Dz (bL (v:=.bool false) (qj (by rw [mB,nI e]) (a.dr 3))))))))))
def ph (n:Int) (m:aD) (k:Int) (d:bI):Bool :=
 if (eY m)=true then
  if (decide ((m.og:Int)<=n))=true then
   if ((m.bd.kd:Int) == 6)=true then
    if ((m.bd.k:Int) == k)=true then
     decide (m.bd.dg=d)
    else
     false
   else
    false
  else
   false
 else
  false
theorem yQ n m k d (hm:dw m) (hr:Rw w0 L bS.cells 2 cD m.bd.qa m.bd.ql) (hs:St w0 L w):Cs Tryz.prog 36 #[.int .i64 n,.agg (aD.cells m),.int .u64 k,.agg (bI.cells d)] w λrv w'=>rv=.bool (ph n m k d)/\St w0 L w':=by
 refine cL Tryz.func36 Tryz.ntmps36 (En (Ls (Lg [0,1] (Dz (hG (aD.cells m) hs λb1 w2 a2=>Lo (Dz (hG (bI.cells d) a2 λb4 w5 q=>Lz (Ls (Dz (bX [1] (fE 0 1 0 121 (aD.cells m) q Hz) (eE (ve m zc (λw h=>hr _ (h.drop 2)) q) λw9 a=>Lo (Dz (Zr 2 1 [] (dB 11 (eY m) (λf=>?_) (λf=>?_)))))))))))))))
 ·refine gS 3 6 (Hl 4 1 0 a Hz) (dB 17 (decide ((m.og:Int)<=n)) (λe=>?_) (λe=>?_))
  ·refine gS 9 6 (Hl 11 1 13 a Hz) (dB 23 ((m.bd.kd:Int) == 6) (λi=>?_) (λi=>?_))
   ·refine gS 15 7 (Hl 17 1 15 a Hz) (dB 30 ((m.bd.k:Int) == k) (λo=>?_) (λo=>?_))
    ·exact Zp 22 4 [(24,.agg (bI.cells m.bd.dg)),(25,.agg (bI.cells d))] [(24,[.prop (Array.size (bI.cells m.bd.dg)=32),.cells ⟨b1,57,none⟩ (bI.cells m.bd.dg)]),(25,[.prop (Array.size (bI.cells d)=32),.cells ⟨b4,0,none⟩ (bI.cells d)])] (ak (aL zk (eM (a.cells 1 57 rfl zk) aO)) (ak (aL zk (eM (a.cells 0 0 rfl zk) aO)) gQ)) (aU.jO rfl zk (b:=true) (t:=44) (xs:=bI.cells m.bd.dg) (ys:=bI.cells d) (m:=2) zk zk zf zk (r:=decide (m.bd.dg=d)) (lE  (yv m.bd.dg d)) (En (bO (Lt (Le (Dz (bL (v:=.bool (decide (m.bd.dg=d))) (qj (by rw [ph,if_pos f,if_pos e,if_pos i,if_pos o]) (a.dr 2)))))))))
    ·exact En (bO (Lt (Le (Dz (bL (v:=.bool false) (qj (by rw [ph,if_pos f,if_pos e,if_pos i,nI o]) (a.dr 2)))))))
   ·exact En (bO (Lt (Le (Dz (bL (v:=.bool false) (qj (by rw [ph,if_pos f,if_pos e,nI i]) (a.dr 2)))))))
  ·exact En (bO (Lt (Le (Dz (bL (v:=.bool false) (qj (by rw [ph,if_pos f,nI e]) (a.dr 2)))))))
 ·exact En (bO (Lt (Le (Dz (bL (v:=.bool false) (qj (by rw [ph,nI f]) (a.dr 2)))))))
end
section
variable {w0 w : World} {L : List cA} {ad : Option Addr} {c : Nat}
theorem A4 {p:aD->Bool}:∀ {l:List aD}{k:Nat},k<l.length->p (l.getD k aJ)=true->(∀ i,i<k->p (l.getD i aJ)=false)->l.find? p=some (l.getD k aJ)
 | [],k,hk,_,_=>absurd hk (Nat.not_lt_zero _)
 | x::l,0,_,h,_=>List.find?_cons_of_pos h
 | x::l,k+1,hk,h,no=>(List.find?_cons_of_neg (by have h0:p x=false:=no 0 (Nat.succ_pos _);rw [h0];decide)).trans (A4 (l:=l) (k:=k) (Nat.lt_of_succ_lt_succ hk) h (λi hi=>no (i+1) (Nat.succ_lt_succ hi)))
theorem Fo {p:aD->Bool}{l:List aD}(no:∀ i,i<l.length->p (l.getD i aJ)=false):l.find? p=none:=by
 refine List.find?_eq_none.2 λm hm=>?_
 obtain⟨i,hi,rfl⟩:=List.getElem_of_mem hm
 have h:=no i hi
 rw [List.getD_eq_getElem?_getD,List.getElem?_eq_getElem hi] at h
 intro a
 exact Bool.noConfusion (a.symm.trans h)
def fS (p:Int->aD->Bool) (h:Int) (l:List aD):Nat->List aD
 | 0=>[]
 | y+1=>if ((fS p h l y).length:Int)<=h then fS p h l y++(l.find? (p ((y:Int)+1))).toList else fS p h l y
theorem yR {p:Int->aD->Bool}{h:Int}{l:List aD}{y:Nat}(hh:¬ ((fS p h l y).length:Int)<=h):∀ j,fS p h l (y+j)=fS p h l y
 | 0=>rfl
 | j+1=>by
  have ih:=yR hh j
  show(if (((fS p h l (y+j)).length:Nat):Int)<=h then _ else fS p h l (y+j))=_
  rw [ih,if_neg hh]
theorem Cv {p:Int->aD->Bool}{h:Int}{l:List aD}{y n:Nat}(hy:y<=n) (hh:y=n\/¬ ((fS p h l y).length:Int)<=h):fS p h l y=fS p h l n:=by
 rcases hh with rfl|hh
 ·rfl
 ·rw [<- yR hh (n-y),Nat.add_sub_cancel' hy]
theorem yS {p:Int->aD->Bool}{h:Int}{l:List aD}{y:Nat}{m:aD}(hh:((fS p h l y).length:Int)<=h) (hf:l.find? (p ((y:Int)+1))=some m):fS p h l (y+1)=fS p h l y++[m]:=by
 show(if _ then _ else _)=_
 rw [if_pos hh,hf]
 rfl
theorem Fp {p:Int->aD->Bool}{h:Int}{l:List aD}{y:Nat}(hh:((fS p h l y).length:Int)<=h) (hf:l.find? (p ((y:Int)+1))=none):fS p h l (y+1)=fS p h l y:=by
 show(if _ then _ else _)=_
 rw [if_pos hh,hf]
 exact List.append_nil _
theorem wU {p:Int->aD->Bool}{h:Int}{l:List aD}:∀ y,∀ m∈fS p h l y,m∈l
 | 0,m,hm=>by cases hm
 | y+1,m,hm=>by
  unfold fS at hm
  split at hm
  ·rcases List.mem_append.1 hm with h1|h1
   ·exact wU y m h1
   ·exact List.mem_of_find?_eq_some (Option.mem_toList.1 h1)
  ·exact wU y m hm
theorem Cw {p:Int->aD->Bool}{h:Int}{l:List aD}:∀ y,(fS p h l y).length<=y
 | 0=>Nat.le_refl _
 | y+1=>by
  have ih:=Cw (p:=p) (h:=h) (l:=l) y
  unfold fS
  split
  ·rw [List.length_append]
   have:(l.find? (p ((y:Int)+1))).toList.length<=1:=by cases l.find? (p ((y:Int)+1))<;>simp
   omega
  ·omega
def gP (n:Int) (kc:Int) (d:bI) (r:Int) (m:aD):Bool :=
 if ((m.og:Int) == r)=true then
  mB n m kc d
 else
  false
theorem GC {br:Nat}{bn:Nat}{bk:Nat}{bd:Nat}n kc d r m (hm:dw m) (hTab:∀ w,St w0 L w->jX w) (hr:Rw w0 L bS.cells 2 cD m.bd.qa m.bd.ql) (hs:St w0 (aC br #[.int .i64 r] 3::aC bn #[.int .i64 n] 3::aC bk #[.int .u64 kc] 29::aC bd (bI.cells d) 44::L) w):Cs Tryz.prog 87 #[.agg (aD.cells m),zP br 0,zP bn 0,zP bk 0,zP bd 0] w λrv w'=>rv=.bool (gP n kc d r m)/\St w0 (aC br #[.int .i64 r] 3::aC bn #[.int .i64 n] 3::aC bk #[.int .u64 kc] 29::aC bd (bI.cells d) 44::L) w':=by
 refine cL Tryz.func87 Tryz.ntmps87 (En (Ls (Lg [0] (Dz (hG (aD.cells m) hs λq u a=>Lz (Ls (Lg [9] (Dz (gS 0 5 (Hl 1 0 0 a (Hl 2 1 0 a Hz)) (dB 11 ((m.og:Int) == r) (λb=>?_) (λb=>?_)))))))))))
 ·exact Zj (Hl 5 2 0 a (fE 6 0 0 121 (aD.cells m) a (Hl 7 3 0 a (fE 8 4 0 32 (bI.cells d) a Hz)))) (eE (Cu n m kc d zc (λw h=>hTab w (h.drop 5)) (λw h=>hr _ (h.drop 5)) a) λz o=>Lz (Le (Dz (bL (v:=.bool (mB n m kc d)) (qj (by rw [gP,if_pos b]) (o.dr 1))))))
 ·exact En (Lw (gH (En (bO (Lt (Le (Dz (bL (v:=.bool false) (qj (by rw [gP,nI b]) (a.dr 1))))))))))
theorem IG {br:Nat}{bn:Nat}{bk:Nat}{bd:Nat}n kc d r l (hms:∀ k,k<l.length->dw (l.getD k aJ)/\Rw w0 L bS.cells 2 cD (l.getD k aJ).bd.qa (l.getD k aJ).bd.ql) (hll:l.length<=1000000) (hTab:∀ w,St w0 L w->jX w) (hr:Rw w0 L aD.cells 121 aJ ad l) (hs:St w0 (aC br #[.int .i64 r] 3::aC bn #[.int .i64 n] 3::aC bk #[.int .u64 kc] 29::aC bd (bI.cells d) 44::L) w):Cs Tryz.prog 86 #[.slice ad l.length c,.func (.func 87) #[] #[zP br 0,zP bn 0,zP bk 0,zP bd 0]] w λrv w'=>∃ v,rv=.int .i64 v/\((v=-1/\l.find? (gP n kc d r)=none)\/∃ k:Nat,v=k/\k<l.length/\l.find? (gP n kc d r)=some (l.getD k aJ))/\St w0 (aC br #[.int .i64 r] 3::aC bn #[.int .i64 n] 3::aC bk #[.int .u64 kc] 29::aC bd (bI.cells d) 44::L) w':=by
 refine cL Tryz.func86 Tryz.ntmps86 (En (Lq (Ls (Lq (Lb (Dz (bH.loop (T:=Nat×(Option Addr)) (λgg=>[(0,.slice gg.2 l.length c),(1,.func (.func 87) #[] #[zP br 0,zP bn 0,zP bk 0,zP bd 0]),(7,.int .i64 (l.length:Nat)),(8,.int .i64 (gg.1:Nat))]) (λgg w=>(gg.1<=l.length/\(∀ i,i<gg.1->gP n kc d r (l.getD i aJ)=false)/\∀ w,St w0 L w->aB w gg.2 l.length 121 (λq=>aD.cells (l.getD q aJ)))/\St w0 (aC br #[.int .i64 r] 3::aC bn #[.int .i64 n] 3::aC bk #[.int .u64 kc] 29::aC bd (bI.cells d) 44::L) w) (λgg=>l.length-gg.1) (0,ad) [0,1,7,8] zk ⟨⟨Nat.zero_le _,(λi hi=>absurd hi (Nat.not_lt_zero _)),hr⟩,hs⟩ ?_)))))))
 rintro⟨k,aq⟩ x ⟨hp,a⟩
 dsimp only at hp a
 have hw:=hp.2.2
 refine En (Lq (Ls (Dz (Zi ((k:Int)<(l.length:Nat)) (λu=>?_) (λu=>?_)))))
 ·have hk:k<l.length:=za
  obtain⟨b,e,rfl⟩:=aB.isSome (hw _ (a.drop 4)) za
  refine En (Lk (Lt (Ls (Lb (Lq (Ls (Dz (bX [5] (Hx 3 (k:Int) (l.length:Int) b e 121 (Hg 4 (.agg (aD.cells (l.getD k aJ))) [.prop (Array.size (aD.cells (l.getD k aJ))=121),.cells ⟨b,e+(k*121),none⟩ (aD.cells (l.getD k aJ))] (aL zk (eM (aB.iJ (hw _ (a.drop 4)) zo (Nat.le_of_ble_eq_true zk) zk) aO)) Hz)) (eE (GC n kc d r (l.getD k aJ) (hms k hk).1 (λw h=>hTab w (h.drop 0)) (λw h=>(hms k hk).2 w (h.drop 0)) a) λw9 o=>Lo (Ld (Lt (Dz (cZ (t:=gP n kc d r (l.getD k aJ)) (λf=>?_) (λf=>?_))))))))))))))
  ·exact En (Lq (Le (Ll (Ly (sT (Ll (Ly (Dz (bL (v:=.int .i64 (k:Nat)) ⟨(k:Nat),rfl,.inr ⟨k,rfl,hk,A4 hk f hp.2.1⟩,o⟩)))))))))
  ·exact Zk (Zm (Zt (cS (dW 0 ((k:Nat)+1) Hz) (aN.back (k+1,some ⟨b,e,none⟩) [0,1,7,8] zk (by show l.length-(k+1)<l.length-k;omega) ⟨⟨za,(λi hi=>(Nat.lt_or_ge i k).elim (hp.2.1 i) (λh9=>by rw [show i=k by omega];exact f)),hw⟩,o⟩))))
 ·have hke:k=l.length:=za
  exact En (Lx (kD (kE (Lh (Lt (Lq (Le (Dz (bL (v:=.int .i64 (-1)) ⟨(-1),rfl,.inl ⟨rfl,Fo (λi hi=>hp.2.1 i za)⟩,a⟩)))))))))
theorem GD n kc d l (hn:3<=n/\n<=11) (hms:∀ k,k<l.length->dw (l.getD k aJ)/\Rw w0 L bS.cells 2 cD (l.getD k aJ).bd.qa (l.getD k aJ).bd.ql) (hll:l.length<=1000000) (hTab:∀ w,St w0 L w->jX w) (hr:Rw w0 L aD.cells 121 aJ ad l) (hs:St w0 L w):Cs Tryz.prog 30 #[.int .i64 n,.slice ad l.length c,.int .u64 kc,.agg (bI.cells d)] w λrv w'=>∃ ao co,rv=.slice ao ((fS (gP n kc d) (n / 2) l n.toNat).length) co/\St w0 (Sl ao co 51 121 aD.cells (fS (gP n kc d) (n / 2) l n.toNat)::L) w':=by
 refine cL Tryz.func30 Tryz.ntmps30 (En (Ls (Lg [0,1,2] (Dz (Nx (.int .i64 n) #[.int .i64 n] hs λa w2 b8=>Lo (Dz (Nx (.int .u64 kc) #[.int .u64 kc] b8 λb w5 b9=>Lo (Dz (hG (bI.cells d) b9 λi w8 c0=>Lz (Ls (Ls (Lg [0,1] (Dz (My (.int .i64 0) #[.int .i64 0] c0 λa9 f1 c1=>Lo (Dz (Zu 0 0 #[.int .i64 1] c1 λc2 c3=>Lo (Ld (Lt (Lb (Dz ?_))))))))))))))))))))
 have c4:=St.bJ c3 51 121 aD.cells
 have c5:St w0 (Sl none 0 51 121 aD.cells (fS (gP n kc d) (n / 2) l 0)::aC a9 #[.int .i64 1] 3::aC i (bI.cells d) 44::aC b #[.int .u64 kc] 29::aC a #[.int .i64 n] 3::L) c2:=c4
 refine bH.loop (T:=Nat×Int×Nat×(Option Addr)×Nat) (λgg=>[(1,.slice ad l.length c),(4,zP a 0),(6,zP b 0),(7,zP i 0),(8,.slice gg.2.2.2.1 ((fS (gP n kc d) (n / 2) l gg.1).length) gg.2.2.2.2),(9,zP gg.2.2.1 0)]) (λgg w=>(gg.2.1=(gg.1:Int)+1/\(gg.1:Int)<=n)/\St w0 (Sl gg.2.2.2.1 gg.2.2.2.2 51 121 aD.cells (fS (gP n kc d) (n / 2) l gg.1)::aC gg.2.2.1 #[.int .i64 gg.2.1] 3::aC i (bI.cells d) 44::aC b #[.int .u64 kc] 29::aC a #[.int .i64 n] 3::L) w) (λgg=>n.toNat-gg.1) (0,1,a9,none,0) [1,4,6,7,8,9] zk ⟨⟨rfl,za⟩,c5⟩ ?_
 rintro⟨y,r,bq,o,q⟩ f2 ⟨hp,u⟩
 dsimp only at hp u
 refine Zs (Zs (bH.join (T:=Unit) (E:=λ_=>[(20,.bool ((decide ((r:Int)<=n)) && (decide ((((fS (gP n kc d) (n / 2) l y).length:Nat):Int)<=(n / 2))))),(1,.slice ad l.length c),(4,zP a 0),(6,zP b 0),(7,zP i 0),(8,.slice o ((fS (gP n kc d) (n / 2) l y).length) q),(9,zP bq 0)]) (F:=λ_ w=>St w0 (Sl o q 51 121 aD.cells (fS (gP n kc d) (n / 2) l y)::aC bq #[.int .i64 r] 3::aC i (bI.cells d) 44::aC b #[.int .u64 kc] 29::aC a #[.int .i64 n] 3::L) w) ?_ ?_))
 ·refine Zg [] (gS 0 4 (Hl 0 1 0 u (Hl 1 4 0 u Hz)) (dB 14 (decide ((r:Int)<=n)) (λa0=>?_) (λa0=>?_)))
  ·exact lD (Hl 6 4 0 u (Hg 7 (.div (n / 2)) [.prop (IntKind.i64=IntKind.i64/\(2:Int)≠0/\IntKind.i64.wrap (Int.tdiv n 2)=n / 2)] (aL ⟨rfl,zf,by rw [Int.tdiv_eq_ediv_of_nonneg za];exact rN za za⟩ aO) Hz)) (gB [20,1,4,6,7,8,9] () (decide ((((fS (gP n kc d) (n / 2) l y).length:Nat):Int)<=(n / 2))) (by first|rfl|simp [Hb,a0]) u)
  ·exact En (bO (Dz (gB [20,1,4,6,7,8,9] () false (by first|rfl|simp [Hb,a0]) u)))
 intro _ f3 b0
 refine Zt (cZ (t:=(decide ((r:Int)<=n)) && (decide ((((fS (gP n kc d) (n / 2) l y).length:Nat):Int)<=(n / 2)))) (λx=>?_) (λx=>?_))
 ·have c7:=(Bool.and_eq_true_iff.1 x).1
  have f4:=of_decide_eq_true c7
  have c8:=(Bool.and_eq_true_iff.1 x).2
  have f5:=of_decide_eq_true c8
  refine En (Lk (Lt (Ls (Lb (Ls (Lg [2] (Lw (dE (f:=86) (args:=#[.slice ad l.length c,.func (.func 87) #[] #[zP bq 0,zP a 0,zP b 0,zP i 0]]) Tryz.call86 (IG n kc d r l (λk hk=>⟨(hms k hk).1,λw h=>(hms k hk).2 w (h.drop 1)⟩) zc (λw h=>hTab w (h.drop 1)) (λw h=>hr _ (h.drop 1)) ((((b0.pl 2).pl 3).pl 4).pl 4)) ?_))))))))
  rintro f6 f7 ⟨a2,rfl,b2,a1⟩
  refine Lz (Lq (Dz (Zi ((a2:Int) >= 0) (λd0=>?_) (λd0=>?_))))
  ·refine Zn [(27,.bool (decide ((a2:Int) >= 0))),(10,.int .i64 a2),(1,.slice ad l.length c),(4,zP a 0),(6,zP b 0),(7,zP i 0),(8,.slice o ((fS (gP n kc d) (n / 2) l y).length) q),(9,zP bq 0)] ?_
   obtain⟨kk,hkv,hkl,hkf⟩:∃ k:Nat,a2=k/\k<l.length/\l.find? (gP n kc d r)=some (l.getD k aJ):=b2.resolve_left (λh=>by omega)
   subst hkv
   obtain⟨a3,a4,rfl⟩:=aB.isSome (hr _ (a1.drop 5)) za
   refine bX [5,6] (Hx 3 (kk:Int) (l.length:Int) a3 a4 121 (Hg 4 (.agg (aD.cells (l.getD kk aJ))) [.prop (Array.size (aD.cells (l.getD kk aJ))=121),.cells ⟨a3,a4+(kk*121),none⟩ (aD.cells (l.getD kk aJ))] (aL zk (eM (aB.iJ (hr _ (a1.drop 5)) zo (Nat.le_of_ble_eq_true zk) zk) aO)) Hz)) (aU.cT rfl zk (t:=24) (e:=51) (n:=1) (ps:=[(0,.agg (aD.cells (l.getD kk aJ)))]) zk zk (ti:=Tryz.t51) (z:=.agg (aD.cells aJ)) zk zk zf zf (cs:=aD.cells (l.getD kk aJ)) zk a1 λd1 d2 d3 d4=>?_)
   have d5:St w0 (Sl (some ⟨d1,0,none⟩) 1 51 121 aD.cells ([((⟨(l.getD kk aJ).og,(l.getD kk aJ).nr,(l.getD kk aJ).dp,(⟨((l.getD kk aJ).bd).kd,((l.getD kk aJ).bd).vw,((l.getD kk aJ).bd).k,(⟨(((l.getD kk aJ).bd).rq).cl,(((l.getD kk aJ).bd).rq).tm,(⟨((((l.getD kk aJ).bd).rq).op).kd,((((l.getD kk aJ).bd).rq).op).ky,((((l.getD kk aJ).bd).rq).op).va,((((l.getD kk aJ).bd).rq).op).ol,((((l.getD kk aJ).bd).rq).op).tx,((((l.getD kk aJ).bd).rq).op).am⟩:lP),(((l.getD kk aJ).bd).rq).tg⟩:eG),((l.getD kk aJ).bd).qa,((l.getD kk aJ).bd).qc,((l.getD kk aJ).bd).ql,((l.getD kk aJ).bd).dg⟩:aV),(l.getD kk aJ).tg⟩:aD):aD)])::aC bq #[.int .i64 r] 3::aC a #[.int .i64 n] 3::aC b #[.int .u64 kc] 29::aC i (bI.cells d) 44::Sl o q 51 121 aD.cells (fS (gP n kc d) (n / 2) l y)::L) d2:=St.lS (l:=[((⟨(l.getD kk aJ).og,(l.getD kk aJ).nr,(l.getD kk aJ).dp,(⟨((l.getD kk aJ).bd).kd,((l.getD kk aJ).bd).vw,((l.getD kk aJ).bd).k,(⟨(((l.getD kk aJ).bd).rq).cl,(((l.getD kk aJ).bd).rq).tm,(⟨((((l.getD kk aJ).bd).rq).op).kd,((((l.getD kk aJ).bd).rq).op).ky,((((l.getD kk aJ).bd).rq).op).va,((((l.getD kk aJ).bd).rq).op).ol,((((l.getD kk aJ).bd).rq).op).tx,((((l.getD kk aJ).bd).rq).op).am⟩:lP),(((l.getD kk aJ).bd).rq).tg⟩:eG),((l.getD kk aJ).bd).qa,((l.getD kk aJ).bd).qc,((l.getD kk aJ).bd).ql,((l.getD kk aJ).bd).dg⟩:aV),(l.getD kk aJ).tg⟩:aD):aD)]) (f:=aD.cells) d3 d4 dJ.size zl zk
   refine Lo (Dz (oV eH dJ aJ (d5.pl 5) zj λa5 a6 f8 b3=>Lo (bO (Lm (Lt (Ls (Ls (Dz (cS (Hl 0 2 0 b3 Hz) (En (Lt (Lg [0,1] (Dz (My (.int .i64 0) #[.int .i64 0] b3 λa7 f9 d7=>Lo (Dz (Zu 0 0 #[.int .i64 r] d7 λg0 b5=>Lo (Ld (Lt (Dz (bX [2] (Hl 0 0 0 b5 (dW 1 (r+1) Hz)) (Zu 0 0 #[.int .i64 (r+1)] b5 λd8 d9=>Lo (Ld (Dz ?_)))))))))))))))))))))))
   have e0:=((((((d9.pl 4).pl 5).pl 6).pl 3).pl 4).pl 6).pl 6
   have e1:=e0.dr 2
   have hce:(fS (gP n kc d) (n / 2) l (y+1))=(fS (gP n kc d) (n / 2) l y)++([((⟨(l.getD kk aJ).og,(l.getD kk aJ).nr,(l.getD kk aJ).dp,(⟨((l.getD kk aJ).bd).kd,((l.getD kk aJ).bd).vw,((l.getD kk aJ).bd).k,(⟨(((l.getD kk aJ).bd).rq).cl,(((l.getD kk aJ).bd).rq).tm,(⟨((((l.getD kk aJ).bd).rq).op).kd,((((l.getD kk aJ).bd).rq).op).ky,((((l.getD kk aJ).bd).rq).op).va,((((l.getD kk aJ).bd).rq).op).ol,((((l.getD kk aJ).bd).rq).op).tx,((((l.getD kk aJ).bd).rq).op).am⟩:lP),(((l.getD kk aJ).bd).rq).tg⟩:eG),((l.getD kk aJ).bd).qa,((l.getD kk aJ).bd).qc,((l.getD kk aJ).bd).ql,((l.getD kk aJ).bd).dg⟩:aV),(l.getD kk aJ).tg⟩:aD):aD)]):=yS (of_decide_eq_true (Bool.and_eq_true_iff.1 x).2) (by rw [<- hp.1];exact hkf)
   have e2:St w0 (Sl a5 a6 51 121 aD.cells (fS (gP n kc d) (n / 2) l (y+1))::aC a7 #[.int .i64 (r+1)] 3::aC i (bI.cells d) 44::aC b #[.int .u64 kc] 29::aC a #[.int .i64 n] 3::L) d8:=(by rw [hce];exact e1)
   exact aN.pick [22,9,8,1,4,6,7] (S':=[(22,.int .i64 (r+1)),(9,zP a7 0),(8,.slice a5 (((fS (gP n kc d) (n / 2) l y)++([((⟨(l.getD kk aJ).og,(l.getD kk aJ).nr,(l.getD kk aJ).dp,(⟨((l.getD kk aJ).bd).kd,((l.getD kk aJ).bd).vw,((l.getD kk aJ).bd).k,(⟨(((l.getD kk aJ).bd).rq).cl,(((l.getD kk aJ).bd).rq).tm,(⟨((((l.getD kk aJ).bd).rq).op).kd,((((l.getD kk aJ).bd).rq).op).ky,((((l.getD kk aJ).bd).rq).op).va,((((l.getD kk aJ).bd).rq).op).ol,((((l.getD kk aJ).bd).rq).op).tx,((((l.getD kk aJ).bd).rq).op).am⟩:lP),(((l.getD kk aJ).bd).rq).tg⟩:eG),((l.getD kk aJ).bd).qa,((l.getD kk aJ).bd).qc,((l.getD kk aJ).bd).ql,((l.getD kk aJ).bd).dg⟩:aV),(l.getD kk aJ).tg⟩:aD):aD)])).length) a6),(1,zL a3 a4 l.length c),(4,zP a 0),(6,zP b 0),(7,zP i 0)]) zk (aN.fK (S':=[(22,.int .i64 (r+1)),(9,zP a7 0),(8,.slice a5 ((fS (gP n kc d) (n / 2) l (y+1)).length) a6),(1,zL a3 a4 l.length c),(4,zP a 0),(6,zP b 0),(7,zP i 0)]) (by rw [hce]) (aN.back ((y+1),(r+1),a7,a5,a6) [1,4,6,7,8,9] zk (by show n.toNat-(y+1)<n.toNat-y;omega) ⟨⟨by show r+1=((y+1:Nat):Int)+1;omega,by show((y+1:Nat):Int)<=n;omega⟩,e2⟩))
  ·have hkn:l.find? (gP n kc d r)=none:=(b2.resolve_right (λh=>by obtain⟨k,h1,h2⟩:=h;omega)).2
   refine Zk (Zm (Zt (Zs (Zs (cS (Hl 0 0 0 a1 Hz) (En (Lt (Lg [0,1] (Dz (My (.int .i64 0) #[.int .i64 0] a1 λa8 g5 e3=>Lo (Dz (Zu 0 0 #[.int .i64 r] e3 λg7 b6=>Lo (Ld (Lt (Dz (bX [2] (Hl 0 0 0 b6 (dW 1 (r+1) Hz)) (Zu 0 0 #[.int .i64 (r+1)] b6 λe4 e5=>Lo (Ld (Dz ?_)))))))))))))))))))
   have e6:=(((((e5.pl 2).pl 3).pl 4).pl 3).pl 5).pl 5
   have e7:=e6.dr 1
   have hce:(fS (gP n kc d) (n / 2) l (y+1))=(fS (gP n kc d) (n / 2) l y):=Fp (of_decide_eq_true (Bool.and_eq_true_iff.1 x).2) (by rw [<- hp.1];exact hkn)
   have e8:St w0 (Sl o q 51 121 aD.cells (fS (gP n kc d) (n / 2) l (y+1))::aC a8 #[.int .i64 (r+1)] 3::aC i (bI.cells d) 44::aC b #[.int .u64 kc] 29::aC a #[.int .i64 n] 3::L) e4:=(by rw [hce];exact e7)
   exact aN.pick [22,9,1,4,6,7,8] (S':=[(22,.int .i64 (r+1)),(9,zP a8 0),(1,.slice ad l.length c),(4,zP a 0),(6,zP b 0),(7,zP i 0),(8,.slice o ((fS (gP n kc d) (n / 2) l y).length) q)]) zk (aN.fK (S':=[(22,.int .i64 (r+1)),(9,zP a8 0),(1,.slice ad l.length c),(4,zP a 0),(6,zP b 0),(7,zP i 0),(8,.slice o ((fS (gP n kc d) (n / 2) l (y+1)).length) q)]) (by rw [hce]) (aN.back ((y+1),(r+1),a8,o,q) [1,4,6,7,8,9] zk (by show n.toNat-(y+1)<n.toNat-y;omega) ⟨⟨by show r+1=((y+1:Nat):Int)+1;omega,by show((y+1:Nat):Int)<=n;omega⟩,e8⟩))
 ·refine En (Lx (kD (kE (Lh (Lt (Lq (Le (Dz (bL (v:=.slice o ((fS (gP n kc d) (n / 2) l y).length) q) ?_)))))))))
  have e9:=((((b0.pl 0).pl 4).pl 4).pl 4).pl 4
  have hce:fS (gP n kc d) (n / 2) l y=(fS (gP n kc d) (n / 2) l n.toNat):=Cv za ((Bool.and_eq_false_iff.1 x).elim (λh=>.inl (by have:=of_decide_eq_false h;omega)) (λh=>.inr (of_decide_eq_false h)))
  exact⟨o,q,by rw [<- hce],by rw [<- hce];exact(e9.dr 4)⟩
end
section
variable {w0 w : World} {L : List cA}
structure aX where
 ct:Int
 sa:Option Addr
 sc:Nat
 sl:List Int
 ma:Option Addr
 mc:Nat
 ml:List aD
def aX.cells (x:aX):Array Value:=#[.int .u64 x.ct,.slice x.sa x.sl.length x.sc,.slice x.ma x.ml.length x.mc]
abbrev dV:aX:=⟨0,none,0,[],none,0,[]⟩
theorem GF:gX aX.cells 3:=⟨λ_=>rfl,λ_=>rfl⟩
def pA (a:aX):List Int:=((wd a.ct++wd (a.sl.length:Nat))++a.sl)++hf (a.ml.length:Nat)
def dO (a:aX):List Int:=if 32768<a.sl.length\/6<a.ml.length then [] else if ∀ m∈a.ml,dN m=true then pA a++a.ml.flatMap (λm=>nC (cF m)) else []
theorem pQ (a:aX):(pA a).length=18+a.sl.length:=by
 unfold pA
 simp only [List.length_append,aZ,fU]
 omega
theorem yT {m:aD}:(cF m).length=0↔dN m=false:=by
 unfold cF
 split
 ·rename_i h
  rw [h]
  simp only [List.length_append,aZ]
  exact⟨λh=>by omega,λh=>nomatch h⟩
 ·rename_i h
  exact⟨λ_=>by simpa using h,λ_=>rfl⟩
theorem tC {a:aX}{k:Nat}(h:k<a.ml.length):(a.ml.take (k+1)).flatMap (λm=>nC (cF m))=(a.ml.take k).flatMap (λm=>nC (cF m))++nC (cF (a.ml.getD k aJ)):=by
 rw [bA (d:=aJ) h,List.flatMap_append]
 simp
theorem qM:∀ l:List aD,(l.flatMap λm=>nC (cF m)).length<=742*l.length
 | []=>Nat.le_refl _
 | m::l=>by
  have h1:(cF m).length<=740:=by
   by_cases h:dN m=true
   ·exact tn h
   ·rw [show cF m=[] from if_neg h];exact Nat.zero_le _
  have a:=qM l
  rw [List.flatMap_cons,List.length_append,sA,List.length_cons]
  omega
theorem yU {a:aX}{k:Nat}(hk:k<a.ml.length) (h:∀ m∈a.ml.take k,dN m=true) (hm:dN (a.ml.getD k aJ)=true):∀ m∈a.ml.take (k+1),dN m=true:=by
 intro m hm'
 rw [bA (d:=aJ) hk] at hm'
 rcases List.mem_append.1 hm' with b|b
 ·exact h m b
 ·rw [List.mem_singleton.1 b];exact hm
theorem kZ {a:aX}{k:Nat}(hk:k<a.ml.length) (hm:dN (a.ml.getD k aJ)=false):dO a=[]:=by
 unfold dO
 split
 ·rfl
 ·rw [if_neg λh=>?_]
  have:=h _ (bC (d:=aJ) hk)
  rw [hm] at this
  cases this
theorem ze {p:Prop}(h:p:=by first|omega|(simp only [List.length_append,List.length_cons,List.length_nil,aZ,fU,sA];omega)|(simp only [List.length_append,List.length_cons,List.length_nil,aZ,fU,sA] at *;omega)):p:=h
theorem uq (a:aX) (hct:0<=a.ct/\a.ct<=18446744073709551615) (hms:∀ k,k<a.ml.length->dw (a.ml.getD k aJ)/\Rw w0 L bS.cells 2 cD (a.ml.getD k aJ).bd.qa (a.ml.getD k aJ).bd.ql) (hsn:a.sa=none->a.sc=0) (hll:a.sl.length<=9223372036854775807/\a.ml.length<=9223372036854775807) (hr1:Rw w0 L aD.cells 121 aJ a.ma a.ml) (hr2:Rw w0 L aA 1 0 a.sa a.sl) (hs:St w0 L w):Cs Tryz.prog 10 #[.agg (aX.cells a)] w λrv w'=>∃ ao co,rv=.slice ao ((dO a).length) co/\St w0 (Sl ao co 5 1 aA (dO a)::L) w':=by
 refine cL Tryz.func10 Tryz.ntmps10 (En (Ls (Lg [0] (Dz (hG (aX.cells a) hs λi w2 a1=>Lz (Ls (Ls (Dz (bH.join (T:=Unit) (E:=λ_=>[(16,.bool ((decide ((a.sl.length:Int)>32768)) || (decide ((a.ml.length:Int)>6)))),(2,.slice none 0 0),(1,zP i 0)]) (F:=λ_ w=>St w0 (aC i (aX.cells a) 31::L) w) ?_ ?_)))))))))
 ·refine Zg [] (gS 0 5 (Hl 1 0 1 a1 Hz) (dB 11 (decide ((a.sl.length:Int)>32768)) (λo=>?_) (λo=>?_)))
  ·exact En (bO (Dz (gB [16,2,1] () true (by first|rfl|simp [Hb,o]) a1)))
  ·exact lD (Hl 6 0 2 a1 Hz) (gB [16,2,1] () (decide ((a.ml.length:Int)>6)) (by first|rfl|simp [Hb,o]) a1)
 intro _ w5 b0
 refine Zt (cZ (t:=(decide ((a.sl.length:Int)>32768)) || (decide ((a.ml.length:Int)>6))) (λd=>?_) (λd=>?_))
 ·refine En (Lq (Le (Ly (Dz (bL (v:=.slice none 0 0) ?_)))))
  have b8:=St.bJ b0 5 1 aA
  have b9:=(b8.pl 0).pl 1
  exact⟨none,0,by rw [(show dO a=[] from by first|exact kZ hk hmk|(unfold dO;rw [if_pos (by have b:=d;simp only [Bool.or_eq_true,decide_eq_true_eq] at b;omega)]))];rfl,by rw [(show dO a=[] from by first|exact kZ hk hmk|(unfold dO;rw [if_pos (by have b:=d;simp only [Bool.or_eq_true,decide_eq_true_eq] at b;omega)]))];exact(b9.dr 1)⟩
 ·have c2:=(Bool.or_eq_false_iff.1 d).1
  have f0:=of_decide_eq_false c2
  have c3:=(Bool.or_eq_false_iff.1 d).2
  have f1:=of_decide_eq_false c3
  refine Zk (Zt (Zs (ZD (eR [0,1,3,4,5,6] (.ef 2 (.ef 7 (.rd 8 .done)))) b0 λf2 a3 f3=>Zj (Hl 1 0 0 a3 (Hl 4 0 1 a3 (tP 6 (a.sl.length:Nat) Hz))) (dE (f:=38) (args:=#[.slice none 0 0,.int .u64 a.ct]) Tryz.call38 (eU ([]:List Int) a.ct zg za (St.bJ a3 5 1 aA)) ?_))))
  rintro f4 f5 ⟨c5,c6,rfl,b2⟩
  refine⟨fM (n:=[.prop (Value.int .u64 (IntKind.u64.wrap (a.sl.length:Nat))=Value.int .u64 (a.sl.length:Nat)),.cell ⟨i,1,none⟩ (.slice a.sa a.sl.length a.sc)]) zk (aL (BR za za) (bP (b2.cell 1 rfl zk) aO)),dE (f:=38) (args:=#[.slice c5 ((([]:List Int)++wd a.ct).length) c6,.int .u64 (a.sl.length:Nat)]) Tryz.call38 (eU (([]:List Int)++wd a.ct) (a.sl.length:Nat) zg za b2) ?_⟩
  rintro f6 f7 ⟨c7,c8,rfl,c9⟩
  refine Lz (Ls (Dz (ZD (eR [0,1,2,4,5,6,7] (.ef 3 (.ef 8 (.rd 9 .done)))) c9 λf8 a2 f9=>Zj (Hl 2 1 1 a2 (Hl 5 1 2 a2 (Hg 7 (.eJ (.int .u16 (a.ml.length:Nat)) (.gen [])) [.prop (Value.int .u16 (IntKind.u16.wrap (a.ml.length:Nat))=Value.int .u16 (a.ml.length:Nat))] (aL (vW za za) aO) Hz))) (aU.append rfl zk aP aF (ad:=c7) (c:=c8) (xs:=([]:List Int)++wd a.ct++wd (a.sl.length:Nat)) (ys:=a.sl) (adx:=a.sa) (cx:=a.sc) (0:Int) zk a2 (hr2 _ (a2.drop 2)) hsn ze ze λd0 d1 g0 b3=>⟨fM (n:=[.prop (Value.int .u16 (IntKind.u16.wrap (a.ml.length:Nat))=Value.int .u16 (a.ml.length:Nat)),.cell ⟨i,2,none⟩ (.slice a.ma a.ml.length a.mc)]) zk (aL (vW za za) (bP (b3.cell 1 rfl zk) aO)),dE (f:=39) (args:=#[.slice d0 (((([]:List Int)++wd a.ct++wd (a.sl.length:Nat))++a.sl).length) d1,.int .u16 (a.ml.length:Nat)]) Tryz.call39 (tZ ((([]:List Int)++wd a.ct++wd (a.sl.length:Nat))++a.sl) (a.ml.length:Nat) ze za b3) ?_⟩))))
  rintro g5 g7 ⟨a4,a5,rfl,b4⟩
  refine Lz (Ls (Ls (Dz (cS (Hl 1 1 2 b4 Hz) (Zt (Zb (Zn [(37,.int .i64 0),(36,.int .i64 (a.ml.length:Nat)),(35,.slice a.ma a.ml.length a.mc),(3,.slice a4 ((((([]:List Int)++wd a.ct++wd (a.sl.length:Nat))++a.sl)++hf (a.ml.length:Nat)).length) a5),(2,.slice none 0 0)] (bH.fK (S':=[(37,.int .i64 0),(36,.int .i64 (a.ml.length:Nat)),(35,.slice a.ma a.ml.length a.mc),(3,.slice a4 ((pA a++(a.ml.take 0).flatMap (λm=>nC (cF m))).length) a5),(2,.slice none 0 0)]) (by simp only [pA,List.nil_append,List.take_zero,List.flatMap_nil,List.append_nil]) (bH.loop (T:=Nat×(Option Addr)×(Option Addr)×Nat) (λgg=>[(3,.slice gg.2.2.1 ((pA a++(a.ml.take gg.1).flatMap (λm=>nC (cF m))).length) gg.2.2.2),(35,.slice gg.2.1 a.ml.length a.mc),(36,.int .i64 (a.ml.length:Nat)),(37,.int .i64 (gg.1:Nat))]) (λgg w=>(gg.1<=a.ml.length/\(∀ m∈a.ml.take gg.1,dN m=true)/\∀ w,St w0 L w->aB w gg.2.1 a.ml.length 121 (λq=>aD.cells (a.ml.getD q aJ)))/\St w0 (Sl gg.2.2.1 gg.2.2.2 5 1 aA (pA a++(a.ml.take gg.1).flatMap (λm=>nC (cF m)))::aC i (aX.cells a) 31::L) w) (λgg=>a.ml.length-gg.1) (0,a.ma,a4,a5) [3,35,36,37] zk ⟨⟨Nat.zero_le _,(λm hm=>nomatch hm),hr1⟩,Mz b4 (show((([]:List Int)++wd a.ct++wd (a.sl.length:Nat))++a.sl)++hf (a.ml.length:Nat)=pA a++(a.ml.take 0).flatMap (λm=>nC (cF m)) by unfold pA;simp only [List.nil_append,List.take_zero,List.flatMap_nil,List.append_nil])⟩ ?_)))))))))
  rintro⟨k,aq,a6,c1⟩ g8 ⟨hp,u⟩
  dsimp only at hp u
  have hw:=hp.2.2
  refine En (Lq (Ls (Dz (Zi ((k:Int)<(a.ml.length:Nat)) (λd3=>?_) (λd3=>?_)))))
  ·have hk:k<a.ml.length:=za
   have hmt:=qM (a.ml.take k)
   have htl:(a.ml.take k).length=k:=by rw [List.length_take];omega
   have hdl:=pQ a
   obtain⟨x,z,rfl⟩:=aB.isSome (hw _ (u.drop 2)) za
   refine Zk (Zt (Zs (Zb (Zs (bX [2,3] (Hx 0 (k:Int) (a.ml.length:Int) x z 121 (Hg 1 (.agg (aD.cells (a.ml.getD k aJ))) [.prop (Array.size (aD.cells (a.ml.getD k aJ))=121),.cells ⟨x,z+(k*121),none⟩ (aD.cells (a.ml.getD k aJ))] (aL zk (eM (aB.iJ (hw _ (u.drop 2)) zo (Nat.le_of_ble_eq_true zk) zk) aO)) Hz)) (eN (aD.cells aJ) u λg9 h0 d4=>Lo (Dz (Zu 0 0 (aD.cells (a.ml.getD k aJ)) d4 λh1 b5=>Lo (Ld (Lt (Ls (Dz (bX [1] (fE 0 0 0 121 (aD.cells (a.ml.getD k aJ)) b5 Hz) (dE (f:=40) (args:=#[.agg (aD.cells (a.ml.getD k aJ))]) Tryz.call40 (Gd (a.ml.getD k aJ) (hms k hk).1 (λw h=>(hms k hk).2 w (h.drop 3)) b5) ?_))))))))))))))
   rintro h2 h3 ⟨d5,d6,rfl,b6⟩
   refine Lz (Ls (Lq (Dz (cZ (t:=(((cF (a.ml.getD k aJ)).length:Nat):Int) == 0) (λa0=>?_) (λa0=>?_)))))
   ·have d7:=iV a0
    have hmk:dN (a.ml.getD k aJ)=false:=by
     exact yT.1 (by have:=eq_of_beq a0;omega)
    refine En (Lq (Le (Ly (Ll (Ly (sT (Ll (Ly (Dz (bL (v:=.slice none 0 0) ?_))))))))))
    have d8:=St.bJ b6 5 1 aA
    have d9:=((((d8.pl 0).pl 4).pl 4).pl 4).pl 4
    exact⟨none,0,by rw [(show dO a=[] from by first|exact kZ hk hmk|(unfold dO;rw [if_pos (by have b:=d;simp only [Bool.or_eq_true,decide_eq_true_eq] at b;omega)]))];rfl,by rw [(show dO a=[] from by first|exact kZ hk hmk|(unfold dO;rw [if_pos (by have b:=d;simp only [Bool.or_eq_true,decide_eq_true_eq] at b;omega)]))];exact(d9.dr 4)⟩
   ·have d7:=jC a0
    have hmk:dN (a.ml.getD k aJ)=true:=by
     have e:=a0
     cases b:dN (a.ml.getD k aJ) with
     | true=>rfl
     | false=>exact absurd (yT.2 b) (by have:=ne_of_beq_false e;omega)
    have hml:=tn hmk
    refine Zk (Zt (bX [4,6] (Hg 3 (.eJ (.int .u16 ((cF (a.ml.getD k aJ)).length:Nat)) (.gen [])) [.prop (Value.int .u16 (IntKind.u16.wrap ((cF (a.ml.getD k aJ)).length:Nat))=Value.int .u16 ((cF (a.ml.getD k aJ)).length:Nat))] (aL (vW za za) aO) Hz) (dE (f:=39) (args:=#[.slice a6 ((pA a++(a.ml.take k).flatMap (λm=>nC (cF m))).length) c1,.int .u16 ((cF (a.ml.getD k aJ)).length:Nat)]) Tryz.call39 (tZ (pA a++(a.ml.take k).flatMap (λm=>nC (cF m))) ((cF (a.ml.getD k aJ)).length:Nat) ze za (b6.pl 2)) ?_)))
    rintro h5 h6 ⟨e2,e3,rfl,a7⟩
    refine Lo (Lw (aU.append rfl zk aP aF (ad:=e2) (c:=e3) (xs:=(pA a++(a.ml.take k).flatMap (λm=>nC (cF m)))++hf ((cF (a.ml.getD k aJ)).length:Nat)) (ys:=cF (a.ml.getD k aJ)) (adx:=d5) (cx:=d6) (0:Int) zk a7 (a7.rows 1 rfl aF.size (0:Int)) (a7.dI 1 rfl) ze ze λa8 a9 i0 e4=>Lo (bO (Lm (Lt (Dz (cS (dW 0 ((k:Nat)+1) Hz) ?_)))))))
    have e5:=(((e4.pl 3).pl 1).pl 3).pl 3
    exact aN.pick [37,3,35,36] (S':=[(37,.int .i64 ((k:Nat)+1)),(3,.slice a8 ((((pA a++(a.ml.take k).flatMap (λm=>nC (cF m)))++hf ((cF (a.ml.getD k aJ)).length:Nat))++(cF (a.ml.getD k aJ))).length) a9),(35,zL x z a.ml.length a.mc),(36,.int .i64 (a.ml.length:Nat))]) zk (aN.fK (S':=[(37,.int .i64 ((k:Nat)+1)),(3,.slice a8 ((pA a++(a.ml.take (k+1)).flatMap (λm=>nC (cF m))).length) a9),(35,zL x z a.ml.length a.mc),(36,.int .i64 (a.ml.length:Nat))]) (by rw [(show((pA a++(a.ml.take k).flatMap (λm=>nC (cF m)))++hf ((cF (a.ml.getD k aJ)).length:Nat))++(cF (a.ml.getD k aJ))=pA a++(a.ml.take (k+1)).flatMap (λm=>nC (cF m)) by rw [tC hk,show nC (cF (a.ml.getD k aJ))=hf ((cF (a.ml.getD k aJ)).length:Nat)++cF (a.ml.getD k aJ) from rfl];simp only [List.append_assoc])]) (aN.back (k+1,some ⟨x,z,none⟩,a8,a9) [3,35,36,37] zk (by show a.ml.length-(k+1)<a.ml.length-k;omega) ⟨⟨za,yU hk hp.2.1 hmk,hw⟩,Mz (e5.dr 2) (show((pA a++(a.ml.take k).flatMap (λm=>nC (cF m)))++hf ((cF (a.ml.getD k aJ)).length:Nat))++(cF (a.ml.getD k aJ))=pA a++(a.ml.take (k+1)).flatMap (λm=>nC (cF m)) by rw [tC hk,show nC (cF (a.ml.getD k aJ))=hf ((cF (a.ml.getD k aJ)).length:Nat)++cF (a.ml.getD k aJ) from rfl];simp only [List.append_assoc])⟩))
  ·have hke:a.ml.take k=a.ml:=List.take_of_length_le za
   refine En (Lx (kD (kE (Lh (Lt (Lq (Le (Dz (bL (v:=.slice a6 ((pA a++(a.ml.take k).flatMap (λm=>nC (cF m))).length) c1) ?_)))))))))
   have e8:=(u.pl 0).pl 1
   have e:pA a++(a.ml.take k).flatMap (λm=>nC (cF m))=dO a:=by
    unfold dO
    rw [if_neg za,if_pos (by rw [<- hke];exact hp.2.1),hke]
   exact⟨a6,c1,by rw [<- e],by rw [<- e];exact(e8.dr 1)⟩
end
section
variable {w0 w : World} {L : List cA}
def anyI (p:Nat->aD->Bool) (l:List aD):Bool:=(List.range l.length).any λi=>p i (l.getD i aJ)
theorem pj {p:Nat->aD->Bool}{l:List aD}{k:Nat}(hk:k<l.length) (h:p k (l.getD k aJ)=true):anyI p l=true:=List.any_eq_true.2 ⟨k,List.mem_range.2 hk,h⟩
theorem pR {p:Nat->aD->Bool}{l:List aD}(h:∀ i,i<l.length->p i (l.getD i aJ)=false):anyI p l=false:=List.any_eq_false.2 λi hi=>by
 rw [h i (List.mem_range.1 hi)];decide
theorem MV {i:Nat}(h:0<i/\i<=1000000):IntKind.i64.wrap ((i:Int)-1)=((i-1:Nat):Int):=by
 rw [show IntKind.i64.wrap ((i:Int)-1)=(i:Int)-1 from rN za za];omega
def BH (n:Int) (a:aX) (i:Nat) (m:aD):Bool :=
 (decide ((m.og:Int)>n)) || ((decide ((i:Int)>0)) && (decide (((a.ml.getD (i-1:Nat) aJ).og:Int) >= m.og)))
theorem GG {bn:Nat}{ba:Nat}{aq:Option Addr}n (a:aX) i m (hi:i<a.ml.length) (hll:a.ml.length<=1000000) (hr:Rw w0 L aD.cells 121 aJ aq a.ml) (hs:St w0 (aC bn #[.int .i64 n] 3::aC ba (aX.cells (⟨a.ct,a.sa,a.sc,a.sl,aq,a.mc,a.ml⟩:aX)) 31::L) w):Cs Tryz.prog 47 #[.int .i64 (i:Nat),.agg (aD.cells m),zP bn 0,zP ba 0] w λrv w'=>rv=.bool (BH n a i m)/\St w0 (aC bn #[.int .i64 n] 3::aC ba (aX.cells (⟨a.ct,a.sa,a.sc,a.sl,aq,a.mc,a.ml⟩:aX)) 31::L) w':=by
 refine cL Tryz.func47 Tryz.ntmps47 (En (Ls (Lg [0] (Dz (hG (aD.cells m) hs λu w2 x=>Lz (Ls (Dz (bH.join (T:=Unit) (E:=λ_=>[(6,.bool ((decide ((m.og:Int)>n)) || ((decide ((i:Int)>0)) && (decide (((a.ml.getD (i-1:Nat) aJ).og:Int) >= m.og)))))]) (F:=λ_ w=>St w0 (aC u (aD.cells m) 51::aC bn #[.int .i64 n] 3::aC ba (aX.cells (⟨a.ct,a.sa,a.sc,a.sl,aq,a.mc,a.ml⟩:aX)) 31::L) w) ?_ ?_))))))))
 ·refine ZD (eR [0,1,2,3,4,5,6,7,8,9,10,11,12,13,14,15,16,17,18,19,20] .done) x λw4 b a2=>gS 0 5 (Hl 1 0 0 b (Hl 2 1 0 b Hz)) (dB 11 (decide ((m.og:Int)>n)) (λd=>?_) (λd=>?_))
  ·have z:=of_decide_eq_true d
   exact En (bO (Dz (gB [6] () true (by first|rfl|simp [Hb,d]) b)))
  ·have z:=of_decide_eq_false d
   refine Zr 5 3 [] (dB 14 (decide ((i:Int)>0)) (λe=>?_) (λe=>?_))
   ·have a0:=of_decide_eq_true e
    have a3:i-1<a.ml.length:=za
    obtain⟨f,o,rfl⟩:=aB.isSome (hr _ (b.drop 3)) za
    exact lD (Hl 9 2 2 b (Hg 11 (.eJ (.int .i64 ((i-1:Nat):Nat)) (.gen [])) [.prop (Value.int .i64 (IntKind.i64.wrap ((i:Nat)-1))=Value.int .i64 ((i-1:Nat):Nat))] (aL (congrArg (Value.int .i64) (MV za)) aO) (Hx 12 (((i-1:Nat):Nat):Int) (a.ml.length:Int) f o 121 (Hg 14 (.gen [.int .i64 ((a.ml.getD (i-1:Nat) aJ).og)]) [.cell ⟨f,o+((i-1:Nat)*121),none⟩ (.int .i64 ((a.ml.getD (i-1:Nat) aJ).og))] (bP (aB.dX (hr _ (b.drop 3)) (k:=(i-1:Nat)) zo (j:=0) zf zk) aO) (Hl 16 0 0 b Hz))))) (aN.pick [6] (S':=[(6,.bool (decide (((a.ml.getD (i-1:Nat) aJ).og:Int) >= m.og)))]) zk (aN.eZ () (by first|rfl|(simp only [d,e,Bool.not_true,Bool.not_false,Bool.true_or,Bool.false_or,Bool.true_and,Bool.false_and,Bool.or_true,Bool.or_false,Bool.and_true,Bool.and_false];done)|(simp [d,e];done)) b))
   ·exact En (bO (Dz (aN.pick [6] (S':=[(6,.bool false)]) zk (aN.eZ () (by first|rfl|(simp only [d,e,Bool.not_true,Bool.not_false,Bool.true_or,Bool.false_or,Bool.true_and,Bool.false_and,Bool.or_true,Bool.or_false,Bool.and_true,Bool.and_false];done)|(simp [d,e];done)) b))))
 intro _ a4 a1
 exact Zt (Ze (bL (v:=.bool ((decide ((m.og:Int)>n)) || ((decide ((i:Int)>0)) && (decide (((a.ml.getD (i-1:Nat) aJ).og:Int) >= m.og))))) (qj (by rw [BH]) (a1.dr 1))))
theorem IH {bn:Nat}{ba:Nat}(n:Int) (a:aX) (i:Nat) (m:aD) (hi:i<a.ml.length) (hll:a.ml.length<=1000000) (hr:∀ w,St w0 L w->aB w a.ma a.ml.length 121 (λk=>aD.cells (a.ml.getD k aJ))) (hs:St w0 (aC bn #[.int .i64 n] 3::aC ba (aX.cells a) 31::L) w):Calls Tryz.prog 47 #[.int .i64 (i:Nat),.agg (aD.cells m),zP bn 0,zP ba 0] w (pE λrv w'=>rv=.bool (BH n a i m)/\St w0 (aC bn #[.int .i64 n] 3::aC ba (aX.cells a) 31::L) w'):=GG (aq:=a.ma) n a i m hi hll hr hs
theorem II i m (hm:dw m) (hTab:∀ w,St w0 L w->jX w) (hr:Rw w0 L bS.cells 2 cD m.bd.qa m.bd.ql) (hs:St w0 L w):Cs Tryz.prog 49 #[.int .i64 (i:Nat),.agg (aD.cells m)] w λrv w'=>rv=.bool (!(eY m))/\St w0 L w':=by
 exact cL Tryz.func49 Tryz.ntmps49 (En (Ls (Lg [0] (Dz (hG (aD.cells m) hs λe f a=>Lz (Ls (Dz (bX [1] (fE 0 0 0 121 (aD.cells m) a Hz) (eE (wT m zc (λw h=>hTab w (h.drop 1)) (λw h=>hr _ (h.drop 1)) a) λq b=>Lz (Le (Dz (bL (v:=.bool (!(eY m))) ⟨rfl,b.dr 1⟩))))))))))))
theorem IJ {bn:Nat}{ba:Nat}{bd:Nat}n (a:aX) d i m (hm:dw m) (hTab:∀ w,St w0 L w->jX w) (hr:Rw w0 L bS.cells 2 cD m.bd.qa m.bd.ql) (hs:St w0 (aC bn #[.int .i64 n] 3::aC ba (aX.cells a) 31::aC bd (bI.cells d) 44::L) w):Cs Tryz.prog 52 #[.int .i64 (i:Nat),.agg (aD.cells m),zP bn 0,zP ba 0,zP bd 0] w λrv w'=>rv=.bool (!(mB n m a.ct d))/\St w0 (aC bn #[.int .i64 n] 3::aC ba (aX.cells a) 31::aC bd (bI.cells d) 44::L) w':=by
 exact cL Tryz.func52 Tryz.ntmps52 (En (Ls (Lg [0] (Dz (hG (aD.cells m) hs λo q b=>Lz (Ls (Dz (bX [5] (Hl 0 1 0 b (fE 1 0 0 121 (aD.cells m) b (Hl 3 2 0 b (fE 4 3 0 32 (bI.cells d) b Hz)))) (eE (Cu n m a.ct d zc (λw h=>hTab w (h.drop 4)) (λw h=>hr _ (h.drop 4)) b) λx e=>Lz (Le (Dz (bL (v:=.bool (!(mB n m a.ct d))) ⟨rfl,e.dr 1⟩))))))))))))
theorem D8 {bn:Nat}{ba:Nat}n (a:aX) (hms:∀ k,k<a.ml.length->dw (a.ml.getD k aJ)/\Rw w0 L bS.cells 2 cD (a.ml.getD k aJ).bd.qa (a.ml.getD k aJ).bd.ql) (hll:a.ml.length<=1000000) (hr:Rw w0 L aD.cells 121 aJ a.ma a.ml) (hs:St w0 (aC bn #[.int .i64 n] 3::aC ba (aX.cells a) 31::L) w):Cs Tryz.prog 41 #[.func (.func 47) #[] #[zP bn 0,zP ba 0],zP ba 0] w λrv w'=>rv=.bool (anyI (BH n a) a.ml)/\St w0 (aC bn #[.int .i64 n] 3::aC ba (aX.cells a) 31::L) w':=by
 refine cL Tryz.func41 Tryz.ntmps41 (En (Lq (Ls (Ls (Dz (cS (Hl 1 1 2 hs Hz) (Zt (Zb (bH.loop (T:=Nat×(Option Addr)) (λgg=>[(0,.func (.func 47) #[] #[zP bn 0,zP ba 0]),(7,.slice gg.2 a.ml.length a.mc),(8,.int .i64 (a.ml.length:Nat)),(9,.int .i64 (gg.1:Nat))]) (λgg w=>(gg.1<=a.ml.length/\(∀ i,i<gg.1->(BH n a) i (a.ml.getD i aJ)=false)/\∀ w,St w0 L w->aB w gg.2 a.ml.length 121 (λq=>aD.cells (a.ml.getD q aJ)))/\St w0 (aC bn #[.int .i64 n] 3::aC ba (aX.cells a) 31::L) w) (λgg=>a.ml.length-gg.1) (0,a.ma) [0,7,8,9] zk ⟨⟨Nat.zero_le _,(λi hi=>absurd hi (Nat.not_lt_zero _)),hr⟩,hs⟩ ?_)))))))))
 rintro⟨k,aq⟩ w1 ⟨hp,b⟩
 dsimp only at hp b
 have hw:=hp.2.2
 refine En (Lq (Ls (Dz (Zi ((k:Int)<(a.ml.length:Nat)) (λx=>?_) (λx=>?_)))))
 ·have hk:k<a.ml.length:=za
  obtain⟨d,e,rfl⟩:=aB.isSome (hw _ (b.drop 2)) za
  refine Zk (Zt (Zs (Zb (Zs (bX [3,5] (Hx 1 (k:Int) (a.ml.length:Int) d e 121 (Hg 2 (.agg (aD.cells (a.ml.getD k aJ))) [.prop (Array.size (aD.cells (a.ml.getD k aJ))=121),.cells ⟨d,e+(k*121),none⟩ (aD.cells (a.ml.getD k aJ))] (aL zk (eM (aB.iJ (hw _ (b.drop 2)) zo (Nat.le_of_ble_eq_true zk) zk) aO)) Hz)) (eN (aD.cells aJ) b λb7 w8 z=>Lo (Lw (Zu 0 0 (aD.cells (a.ml.getD k aJ)) z λa5 o=>Lo (Ld (Lt (Ls (Dz (bX [3] (fE 2 0 0 121 (aD.cells (a.ml.getD k aJ)) o Hz) (eE (IH n a k (a.ml.getD k aJ) zc zc (λw h=>hr _ (h.drop 1)) ((o.pl 2).pl 2)) λa7 u=>Lo (Ld (Lt (Dz (cZ (t:=BH n a k (a.ml.getD k aJ)) (λf=>?_) (λf=>?_)))))))))))))))))))
  ·refine En (Lq (Le (Ll (Ly (sT (Ll (Ly (Dz (bL (v:=.bool true) ?_)))))))))
   have a1:=((u.pl 1).pl 1).pl 2
   exact⟨(by rw [pj (p:=BH n a) hk f]),a1.dr 1⟩
  ·refine Zk (Zm (Zt (cS (dW 0 ((k:Nat)+1) Hz) ?_)))
   have a3:=((u.pl 1).pl 1).pl 2
   exact aN.back (k+1,some ⟨d,e,none⟩) [0,7,8,9] zk (by show a.ml.length-(k+1)<a.ml.length-k;omega) ⟨⟨za,(λi hi=>(Nat.lt_or_ge i k).elim (hp.2.1 i) (λh9=>by rw [show i=k by omega];exact f)),hw⟩,a3.dr 1⟩
 ·have hke:k=a.ml.length:=za
  exact En (Lx (kD (kE (Lh (Lt (Lq (Le (Dz (bL (v:=.bool false) ⟨(by rw [pR (p:=BH n a) (λi hi=>hp.2.1 i za)]),b⟩)))))))))
theorem D9 {ba:Nat}(a:aX) (hms:∀ k,k<a.ml.length->dw (a.ml.getD k aJ)/\Rw w0 L bS.cells 2 cD (a.ml.getD k aJ).bd.qa (a.ml.getD k aJ).bd.ql) (hll:a.ml.length<=1000000) (hTab:∀ w,St w0 L w->jX w) (hr:Rw w0 L aD.cells 121 aJ a.ma a.ml) (hs:St w0 (aC ba (aX.cells a) 31::L) w):Cs Tryz.prog 41 #[.func (.func 49) #[] #[],zP ba 0] w λrv w'=>rv=.bool (anyI (λ_ m=>!(eY m)) a.ml)/\St w0 (aC ba (aX.cells a) 31::L) w':=by
 refine cL Tryz.func41 Tryz.ntmps41 (En (Lq (Ls (Ls (Dz (cS (Hl 1 0 2 hs Hz) (Zt (Zb (bH.loop (T:=Nat×(Option Addr)) (λgg=>[(0,.func (.func 49) #[] #[]),(7,.slice gg.2 a.ml.length a.mc),(8,.int .i64 (a.ml.length:Nat)),(9,.int .i64 (gg.1:Nat))]) (λgg w=>(gg.1<=a.ml.length/\(∀ i,i<gg.1->(λ_ m=>!(eY m)) i (a.ml.getD i aJ)=false)/\∀ w,St w0 L w->aB w gg.2 a.ml.length 121 (λq=>aD.cells (a.ml.getD q aJ)))/\St w0 (aC ba (aX.cells a) 31::L) w) (λgg=>a.ml.length-gg.1) (0,a.ma) [0,7,8,9] zk ⟨⟨Nat.zero_le _,(λi hi=>absurd hi (Nat.not_lt_zero _)),hr⟩,hs⟩ ?_)))))))))
 rintro⟨k,aq⟩ w1 ⟨hp,b⟩
 dsimp only at hp b
 have hw:=hp.2.2
 refine En (Lq (Ls (Dz (Zi ((k:Int)<(a.ml.length:Nat)) (λx=>?_) (λx=>?_)))))
 ·have hk:k<a.ml.length:=za
  obtain⟨d,e,rfl⟩:=aB.isSome (hw _ (b.drop 1)) za
  refine Zk (Zt (Zs (Zb (Zs (bX [3,5] (Hx 1 (k:Int) (a.ml.length:Int) d e 121 (Hg 2 (.agg (aD.cells (a.ml.getD k aJ))) [.prop (Array.size (aD.cells (a.ml.getD k aJ))=121),.cells ⟨d,e+(k*121),none⟩ (aD.cells (a.ml.getD k aJ))] (aL zk (eM (aB.iJ (hw _ (b.drop 1)) zo (Nat.le_of_ble_eq_true zk) zk) aO)) Hz)) (eN (aD.cells aJ) b λb7 w8 z=>Lo (Lw (Zu 0 0 (aD.cells (a.ml.getD k aJ)) z λa2 o=>Lo (Ld (Lt (Ls (Dz (bX [3] (fE 2 0 0 121 (aD.cells (a.ml.getD k aJ)) o Hz) (eE (II k (a.ml.getD k aJ) (hms k hk).1 (λw h=>hTab w (h.drop 2)) (λw h=>(hms k hk).2 w (h.drop 2)) o) λa4 u=>Lo (Ld (Lt (Dz (cZ (t:=!(eY (a.ml.getD k aJ))) (λf=>?_) (λf=>?_)))))))))))))))))))
  ·exact En (Lq (Le (Ll (Ly (sT (Ll (Ly (Dz (bL (v:=.bool true) ⟨(by rw [pj (p:=λ_ m=>!(eY m)) hk f]),u.dr 1⟩)))))))))
  ·exact Zk (Zm (Zt (cS (dW 0 ((k:Nat)+1) Hz) (aN.back (k+1,some ⟨d,e,none⟩) [0,7,8,9] zk (by show a.ml.length-(k+1)<a.ml.length-k;omega) ⟨⟨za,(λi hi=>(Nat.lt_or_ge i k).elim (hp.2.1 i) (λh9=>by rw [show i=k by omega];exact f)),hw⟩,u.dr 1⟩))))
 ·have hke:k=a.ml.length:=za
  exact En (Lx (kD (kE (Lh (Lt (Lq (Le (Dz (bL (v:=.bool false) ⟨(by rw [pR (p:=λ_ m=>!(eY m)) (λi hi=>hp.2.1 i za)]),b⟩)))))))))
theorem Ea {bn:Nat}{ba:Nat}{bd:Nat}n (a:aX) d (hms:∀ k,k<a.ml.length->dw (a.ml.getD k aJ)/\Rw w0 L bS.cells 2 cD (a.ml.getD k aJ).bd.qa (a.ml.getD k aJ).bd.ql) (hll:a.ml.length<=1000000) (hTab:∀ w,St w0 L w->jX w) (hr:Rw w0 L aD.cells 121 aJ a.ma a.ml) (hs:St w0 (aC bn #[.int .i64 n] 3::aC ba (aX.cells a) 31::aC bd (bI.cells d) 44::L) w):Cs Tryz.prog 41 #[.func (.func 52) #[] #[zP bn 0,zP ba 0,zP bd 0],zP ba 0] w λrv w'=>rv=.bool (anyI (λ_ m=>!(mB n m a.ct d)) a.ml)/\St w0 (aC bn #[.int .i64 n] 3::aC ba (aX.cells a) 31::aC bd (bI.cells d) 44::L) w':=by
 refine cL Tryz.func41 Tryz.ntmps41 (En (Lq (Ls (Ls (Dz (cS (Hl 1 1 2 hs Hz) (Zt (Zb (bH.loop (T:=Nat×(Option Addr)) (λgg=>[(0,.func (.func 52) #[] #[zP bn 0,zP ba 0,zP bd 0]),(7,.slice gg.2 a.ml.length a.mc),(8,.int .i64 (a.ml.length:Nat)),(9,.int .i64 (gg.1:Nat))]) (λgg w=>(gg.1<=a.ml.length/\(∀ i,i<gg.1->(λ_ m=>!(mB n m a.ct d)) i (a.ml.getD i aJ)=false)/\∀ w,St w0 L w->aB w gg.2 a.ml.length 121 (λq=>aD.cells (a.ml.getD q aJ)))/\St w0 (aC bn #[.int .i64 n] 3::aC ba (aX.cells a) 31::aC bd (bI.cells d) 44::L) w) (λgg=>a.ml.length-gg.1) (0,a.ma) [0,7,8,9] zk ⟨⟨Nat.zero_le _,(λi hi=>absurd hi (Nat.not_lt_zero _)),hr⟩,hs⟩ ?_)))))))))
 rintro⟨k,aq⟩ w1 ⟨hp,b⟩
 dsimp only at hp b
 have hw:=hp.2.2
 refine En (Lq (Ls (Dz (Zi ((k:Int)<(a.ml.length:Nat)) (λz=>?_) (λz=>?_)))))
 ·have hk:k<a.ml.length:=za
  obtain⟨e,f,rfl⟩:=aB.isSome (hw _ (b.drop 3)) za
  refine Zk (Zt (Zs (Zb (Zs (bX [3,5] (Hx 1 (k:Int) (a.ml.length:Int) e f 121 (Hg 2 (.agg (aD.cells (a.ml.getD k aJ))) [.prop (Array.size (aD.cells (a.ml.getD k aJ))=121),.cells ⟨e,f+(k*121),none⟩ (aD.cells (a.ml.getD k aJ))] (aL zk (eM (aB.iJ (hw _ (b.drop 3)) zo (Nat.le_of_ble_eq_true zk) zk) aO)) Hz)) (eN (aD.cells aJ) b λb7 w8 a0=>Lo (Lw (Zu 0 0 (aD.cells (a.ml.getD k aJ)) a0 λa6 u=>Lo (Ld (Lt (Ls (Dz (bX [3] (fE 2 0 0 121 (aD.cells (a.ml.getD k aJ)) u Hz) (eE (IJ n a d k (a.ml.getD k aJ) (hms k hk).1 (λw h=>hTab w (h.drop 1)) (λw h=>(hms k hk).2 w (h.drop 1)) (((u.pl 3).pl 3).pl 3)) λa8 x=>Lo (Ld (Lt (Dz (cZ (t:=!(mB n (a.ml.getD k aJ) a.ct d)) (λo=>?_) (λo=>?_)))))))))))))))))))
  ·refine En (Lq (Le (Ll (Ly (sT (Ll (Ly (Dz (bL (v:=.bool true) ?_)))))))))
   have a2:=(((x.pl 2).pl 2).pl 2).pl 3
   exact⟨(by rw [pj (p:=λ_ m=>!(mB n m a.ct d)) hk o]),a2.dr 1⟩
  ·refine Zk (Zm (Zt (cS (dW 0 ((k:Nat)+1) Hz) ?_)))
   have a4:=(((x.pl 2).pl 2).pl 2).pl 3
   exact aN.back (k+1,some ⟨e,f,none⟩) [0,7,8,9] zk (by show a.ml.length-(k+1)<a.ml.length-k;omega) ⟨⟨za,(λi hi=>(Nat.lt_or_ge i k).elim (hp.2.1 i) (λh9=>by rw [show i=k by omega];exact o)),hw⟩,a4.dr 1⟩
 ·have hke:k=a.ml.length:=za
  exact En (Lx (kD (kE (Lh (Lt (Lq (Le (Dz (bL (v:=.bool false) ⟨(by rw [pR (p:=λ_ m=>!(mB n m a.ct d)) (λi hi=>hp.2.1 i za)]),b⟩)))))))))
theorem IK {bn:Nat}n (hn:-9223372036854775808<=n/\n<=9223372036854775807) (hs:St w0 (aC bn #[.int .i64 n] 3::L) w):Cs Tryz.prog 42 #[zP bn 0] w λrv w'=>rv=.bool (!(oP n))/\St w0 (aC bn #[.int .i64 n] 3::L) w':=by
 exact cL Tryz.func42 Tryz.ntmps42 (En (Lq (Ls (Dz (bX [1] (Hl 0 0 0 hs Hz) (eE (yN n zc hs) λd a=>Lz (Le (Dz (bL (v:=.bool (!(oP n))) ⟨rfl,a⟩)))))))))
def rY (n:Int) (a:aX):Bool :=
 (a.ml.length:Int) != ((n / 2)+1)
theorem IL {bn:Nat}{ba:Nat}n (a:aX) (hn:3<=n/\n<=11) (hs:St w0 (aC bn #[.int .i64 n] 3::aC ba (aX.cells a) 31::L) w):Cs Tryz.prog 45 #[zP ba 0,zP bn 0] w λrv w'=>rv=.bool (rY n a)/\St w0 (aC bn #[.int .i64 n] 3::aC ba (aX.cells a) 31::L) w':=by
 exact cL Tryz.func45 Tryz.ntmps45 (En (Lq (Ls (Dz (cS (Hl 1 1 2 hs (Hl 3 0 0 hs (Hg 4 (.div (n / 2)) [.prop (IntKind.i64=IntKind.i64/\(2:Int)≠0/\IntKind.i64.wrap (Int.tdiv n 2)=n / 2)] (aL ⟨rfl,zf,by rw [Int.tdiv_eq_ediv_of_nonneg za];exact rN za za⟩ aO) (dW 5 ((n / 2)+1) Hz)))) (Zt (Ze (bL (v:=.bool ((a.ml.length:Int) != ((n / 2)+1))) (qj (by rw [rY]) hs)))))))))
theorem IM {bf:Nat}{bn:Nat}{ba:Nat}n (a:aX) (hms:∀ k,k<a.ml.length->dw (a.ml.getD k aJ)/\Rw w0 L bS.cells 2 cD (a.ml.getD k aJ).bd.qa (a.ml.getD k aJ).bd.ql) (hll:a.ml.length<=1000000) (hr:Rw w0 L aD.cells 121 aJ a.ma a.ml) (hs:St w0 (aC bf #[.func (.func 41) #[] #[zP ba 0]] 91::aC bn #[.int .i64 n] 3::aC ba (aX.cells a) 31::L) w):Cs Tryz.prog 46 #[zP bf 0,zP bn 0,zP ba 0] w λrv w'=>rv=.bool (anyI (BH n a) a.ml)/\St w0 (aC bf #[.func (.func 41) #[] #[zP ba 0]] 91::aC bn #[.int .i64 n] 3::aC ba (aX.cells a) 31::L) w':=by
 exact cL Tryz.func46 Tryz.ntmps46 (En (Lq (Ls (Dz (bX [2] (Hl 0 0 0 hs Hz) (eE (D8 n a (λk hk=>⟨(hms k hk).1,λw h=>(hms k hk).2 w (h.drop 1)⟩) zc (λw h=>hr _ (h.drop 1)) ((hs.pl 2).pl 2)) λi d=>Lz (Le (Dz (bL (v:=.bool (anyI (BH n a) a.ml)) ⟨rfl,((d.pl 1).pl 1).pl 2⟩)))))))))
theorem IP {bf:Nat}{ba:Nat}(a:aX) (hms:∀ k,k<a.ml.length->dw (a.ml.getD k aJ)/\Rw w0 L bS.cells 2 cD (a.ml.getD k aJ).bd.qa (a.ml.getD k aJ).bd.ql) (hll:a.ml.length<=1000000) (hTab:∀ w,St w0 L w->jX w) (hr:Rw w0 L aD.cells 121 aJ a.ma a.ml) (hs:St w0 (aC bf #[.func (.func 41) #[] #[zP ba 0]] 91::aC ba (aX.cells a) 31::L) w):Cs Tryz.prog 48 #[zP bf 0] w λrv w'=>rv=.bool (anyI (λ_ m=>!(eY m)) a.ml)/\St w0 (aC bf #[.func (.func 41) #[] #[zP ba 0]] 91::aC ba (aX.cells a) 31::L) w':=by
 exact cL Tryz.func48 Tryz.ntmps48 (En (Lq (Ls (Dz (bX [1] (Hl 0 0 0 hs Hz) (eE (D9 a (λk hk=>⟨(hms k hk).1,λw h=>(hms k hk).2 w (h.drop 1)⟩) zc (λw h=>hTab w (h.drop 1)) (λw h=>hr _ (h.drop 1)) (hs.pl 1)) λi d=>Lz (Le (Dz (bL (v:=.bool (anyI (λ_ m=>!(eY m)) a.ml)) ⟨rfl,(d.pl 0).pl 1⟩)))))))))
theorem IQ {bf:Nat}{bn:Nat}{ba:Nat}{bd:Nat}n (a:aX) d (hms:∀ k,k<a.ml.length->dw (a.ml.getD k aJ)/\Rw w0 L bS.cells 2 cD (a.ml.getD k aJ).bd.qa (a.ml.getD k aJ).bd.ql) (hll:a.ml.length<=1000000) (hTab:∀ w,St w0 L w->jX w) (hr:Rw w0 L aD.cells 121 aJ a.ma a.ml) (hs:St w0 (aC bf #[.func (.func 41) #[] #[zP ba 0]] 91::aC bn #[.int .i64 n] 3::aC ba (aX.cells a) 31::aC bd (bI.cells d) 44::L) w):Cs Tryz.prog 51 #[zP bf 0,zP bn 0,zP ba 0,zP bd 0] w λrv w'=>rv=.bool (anyI (λ_ m=>!(mB n m a.ct d)) a.ml)/\St w0 (aC bf #[.func (.func 41) #[] #[zP ba 0]] 91::aC bn #[.int .i64 n] 3::aC ba (aX.cells a) 31::aC bd (bI.cells d) 44::L) w':=by
 exact cL Tryz.func51 Tryz.ntmps51 (En (Lq (Ls (Dz (bX [2] (Hl 0 0 0 hs Hz) (eE (Ea n a d (λk hk=>⟨(hms k hk).1,λw h=>(hms k hk).2 w (h.drop 1)⟩) zc (λw h=>hTab w (h.drop 1)) (λw h=>hr _ (h.drop 1)) (((hs.pl 3).pl 3).pl 3)) λo e=>Lz (Le (Dz (bL (v:=.bool (anyI (λ_ m=>!(mB n m a.ct d)) a.ml)) ⟨rfl,(((e.pl 2).pl 2).pl 2).pl 3⟩)))))))))
end
section
variable {w0 w : World} {L : List cA}
theorem wV (a:aX) (hct:0<=a.ct/\a.ct<=18446744073709551615) (hms:∀ k,k<a.ml.length->dw (a.ml.getD k aJ)/\Rw w0 L bS.cells 2 cD (a.ml.getD k aJ).bd.qa (a.ml.getD k aJ).bd.ql) (hsn:a.sa=none->a.sc=0) (hll:a.sl.length<=9223372036854775807/\a.ml.length<=9223372036854775807) (hr1:Rw w0 L aD.cells 121 aJ a.ma a.ml) (hr2:Rw w0 L aA 1 0 a.sa a.sl) (hs:St w0 L w):Cs Tryz.prog 13 #[.agg (aX.cells a)] w λrv w'=>∃ ao co,rv=.slice ao ((dO a).length) co/\St w0 (Sl ao co 5 1 aA (dO a)::L) w':=by
 refine cL Tryz.func13 Tryz.ntmps13 (En (Ls (Lg [0] (Dz (hG (aX.cells a) hs λb w2 a1=>Lz (Ls (Ls (Dz (bH.join (T:=Unit) (E:=λ_=>[(15,.bool ((decide ((a.sl.length:Int)>32768)) || (decide ((a.ml.length:Int)>6)))),(2,.slice none 0 0),(1,zP b 0)]) (F:=λ_ w=>St w0 (aC b (aX.cells a) 35::L) w) ?_ ?_)))))))))
 ·refine Zg [] (gS 0 5 (Hl 1 0 1 a1 Hz) (dB 10 (decide ((a.sl.length:Int)>32768)) (λu=>?_) (λu=>?_)))
  ·exact En (bO (Dz (gB [15,2,1] () true (by first|rfl|simp [Hb,u]) a1)))
  ·exact lD (Hl 6 0 2 a1 Hz) (gB [15,2,1] () (decide ((a.ml.length:Int)>6)) (by first|rfl|simp [Hb,u]) a1)
 intro _ w5 b2
 refine Zt (cZ (t:=(decide ((a.sl.length:Int)>32768)) || (decide ((a.ml.length:Int)>6))) (λd=>?_) (λd=>?_))
 ·refine En (Lq (Le (Ly (Dz (bL (v:=.slice none 0 0) ?_)))))
  have b8:=St.bJ b2 5 1 aA
  have b9:=(b8.pl 0).pl 1
  exact⟨none,0,by rw [(show dO a=[] from by first|exact kZ hk hmk|(unfold dO;rw [if_pos (by have e:=d;simp only [Bool.or_eq_true,decide_eq_true_eq] at e;omega)]))];rfl,by rw [(show dO a=[] from by first|exact kZ hk hmk|(unfold dO;rw [if_pos (by have e:=d;simp only [Bool.or_eq_true,decide_eq_true_eq] at e;omega)]))];exact(b9.dr 1)⟩
 ·have c2:=(Bool.or_eq_false_iff.1 d).1
  have f1:=of_decide_eq_false c2
  have c3:=(Bool.or_eq_false_iff.1 d).2
  have f2:=of_decide_eq_false c3
  refine Zk (Zt (Zs (ZD (eR [0,1,3,4,5,6] (.ef 2 (.ef 7 (.rd 8 .done)))) b2 λf3 a5 f4=>Zj (Hl 1 0 0 a5 (Hl 4 0 1 a5 (tP 6 (a.sl.length:Nat) Hz))) (dE (f:=56) (args:=#[.slice none (([]:List Int).length) 0,.int .u64 a.ct]) Tryz.call56 (gK ([]:List Int) a.ct ze hct (St.bJ a5 5 1 aA)) ?_))))
  rintro f5 f6 ⟨c5,c6,rfl,b3⟩
  refine⟨fM (n:=[.prop (Value.int .u64 (IntKind.u64.wrap (a.sl.length:Nat))=Value.int .u64 (a.sl.length:Nat)),.cell ⟨b,1,none⟩ (.slice a.sa a.sl.length a.sc)]) zk (aL (BR za za) (bP (b3.cell 1 rfl zk) aO)),dE (f:=56) (args:=#[.slice c5 ((([]:List Int)++wd a.ct).length) c6,.int .u64 (a.sl.length:Nat)]) Tryz.call56 (gK (([]:List Int)++wd a.ct) (a.sl.length:Nat) ze za b3) ?_⟩
  rintro f7 f8 ⟨c7,c8,rfl,a6⟩
  refine Lz (Ls (Dz (bX [3] (Hl 2 1 1 a6 Hz) (aU.append rfl zk aP aF (ad:=c7) (c:=c8) (xs:=(([]:List Int)++wd a.ct)++wd (a.sl.length:Nat)) (ys:=a.sl) (adx:=a.sa) (cx:=a.sc) (0:Int) zk a6 (hr2 _ (a6.drop 2)) hsn ze ze λc9 d0 f9 b4=>Lz (Ls (Dz (bX [5] (Hl 2 1 2 b4 (Hg 4 (.eJ (.int .u16 (a.ml.length:Nat)) (.gen [])) [.prop (Value.int .u16 (IntKind.u16.wrap (a.ml.length:Nat))=Value.int .u16 (a.ml.length:Nat))] (aL (vW za za) aO) Hz)) (dE (f:=57) (args:=#[.slice c9 ((((([]:List Int)++wd a.ct)++wd (a.sl.length:Nat))++a.sl).length) d0,.int .u16 (a.ml.length:Nat)]) Tryz.call57 (su (((([]:List Int)++wd a.ct)++wd (a.sl.length:Nat))++a.sl) (a.ml.length:Nat) ze za b4) ?_))))))))
  rintro g0 d1 ⟨a2,a3,rfl,d2⟩
  refine Lz (Ls (Lq (Lb (Dz ?_))))
  obtain⟨b5,b6⟩:∃ q,q=a.ma:=⟨_,rfl⟩
  have d3:St w0 (Sl a2 a3 5 1 aA (pA a++(a.ml.take 0).flatMap (λm=>nC (cF m)))::aC b (aX.cells (⟨a.ct,a.sa,a.sc,a.sl,b5,a.mc,a.ml⟩:aX)) 35::L) d1:=(by rw [b6,<- (show(((([]:List Int)++wd a.ct)++wd (a.sl.length:Nat))++a.sl)++hf (a.ml.length:Nat)=pA a++(a.ml.take 0).flatMap (λm=>nC (cF m)) by unfold pA;simp only [List.nil_append,List.take_zero,List.flatMap_nil,List.append_nil])];exact d2)
  refine Zn [(4,.int .i64 0),(3,.slice a2 (((((([]:List Int)++wd a.ct)++wd (a.sl.length:Nat))++a.sl)++hf (a.ml.length:Nat)).length) a3),(2,.slice none 0 0),(1,zP b 0)] (bH.fK (S':=[(4,.int .i64 0),(3,.slice a2 ((pA a++(a.ml.take 0).flatMap (λm=>nC (cF m))).length) a3),(2,.slice none 0 0),(1,zP b 0)]) (by simp only [pA,List.nil_append,List.take_zero,List.flatMap_nil,List.append_nil]) (bH.loop (T:=Nat×(Option Addr)×(Option Addr)×Nat) (λgg=>[(1,zP b 0),(3,.slice gg.2.2.1 ((pA a++(a.ml.take gg.1).flatMap (λm=>nC (cF m))).length) gg.2.2.2),(4,.int .i64 (gg.1:Nat))]) (λgg w=>(gg.1<=a.ml.length/\(∀ m∈a.ml.take gg.1,dN m=true)/\∀ w,St w0 L w->aB w gg.2.1 a.ml.length 121 (λq=>aD.cells (a.ml.getD q aJ)))/\St w0 (Sl gg.2.2.1 gg.2.2.2 5 1 aA (pA a++(a.ml.take gg.1).flatMap (λm=>nC (cF m)))::aC b (aX.cells (⟨a.ct,a.sa,a.sc,a.sl,gg.2.1,a.mc,a.ml⟩:aX)) 35::L) w) (λgg=>a.ml.length-gg.1) (0,b5,a2,a3) [1,3,4] zk ⟨⟨Nat.zero_le _,(λm hm=>nomatch hm),by rw [b6];exact hr1⟩,d3⟩ ?_))
  rintro⟨k,aq,a7,c1⟩ g5 ⟨hp,i⟩
  dsimp only at hp i
  have hw:=hp.2.2
  refine Zs (Zs (cS (Hl 2 1 2 i Hz) (Zt (Zi ((k:Int)<(a.ml.length:Nat)) (λd4=>?_) (λd4=>?_)))))
  ·have hk:k<a.ml.length:=za
   have hmt:=qM (a.ml.take k)
   have htl:(a.ml.take k).length=k:=by rw [List.length_take];omega
   have hdl:=pQ a
   obtain⟨x,z,rfl⟩:=aB.isSome (hw _ (i.drop 2)) za
   refine Zk (Zt (Zs (Zb (Zs (Zs (bX [5] (Hl 1 1 2 i (Hx 3 (k:Int) (a.ml.length:Int) x z 121 (Hg 4 (.agg (aD.cells (a.ml.getD k aJ))) [.prop (Array.size (aD.cells (a.ml.getD k aJ))=121),.cells ⟨x,z+(k*121),none⟩ (aD.cells (a.ml.getD k aJ))] (aL zk (eM (aB.iJ (hw _ (i.drop 2)) zo (Nat.le_of_ble_eq_true zk) zk) aO)) Hz))) (dE (f:=58) (args:=#[.agg (aD.cells (a.ml.getD k aJ))]) Tryz.call58 (nM (a.ml.getD k aJ) (hms k hk).1 (λw h=>(hms k hk).2 w (h.drop 2)) i) ?_)))))))
   rintro g7 g8 ⟨rfl,a4⟩
   refine Lz (Dz (cZ (t:=!(dN (a.ml.getD k aJ))) (λa0=>?_) (λa0=>?_)))
   ·have d5:=jV a0
    have hmk:dN (a.ml.getD k aJ)=false:=by have o:=a0;simpa using o
    refine En (Lq (Le (Ly (Ll (Ly (sT (Ll (Ly (Dz (bL (v:=.slice none 0 0) ?_))))))))))
    have d6:=St.bJ a4 5 1 aA
    have d7:=((d6.pl 0).pl 2).pl 2
    exact⟨none,0,by rw [(show dO a=[] from by first|exact kZ hk hmk|(unfold dO;rw [if_pos (by have e:=d;simp only [Bool.or_eq_true,decide_eq_true_eq] at e;omega)]))];rfl,by rw [(show dO a=[] from by first|exact kZ hk hmk|(unfold dO;rw [if_pos (by have e:=d;simp only [Bool.or_eq_true,decide_eq_true_eq] at e;omega)]))];exact(d7.dr 2)⟩
   ·have d5:=jN a0
    have hmk:dN (a.ml.getD k aJ)=true:=by have o:=a0;simpa using o
    have hml:=tn hmk
    refine Zk (Zt (Zs (bX [5] (Hl 1 1 2 a4 (Hx 3 (k:Int) (a.ml.length:Int) x z 121 (Hg 4 (.agg (aD.cells (a.ml.getD k aJ))) [.prop (Array.size (aD.cells (a.ml.getD k aJ))=121),.cells ⟨x,z+(k*121),none⟩ (aD.cells (a.ml.getD k aJ))] (aL zk (eM (aB.iJ (hw _ (a4.drop 2)) zo (Nat.le_of_ble_eq_true zk) zk) aO)) Hz))) (dE (f:=59) (args:=#[.agg (aD.cells (a.ml.getD k aJ))]) Tryz.call59 (Gi (a.ml.getD k aJ) (hms k hk).1 (λw h=>(hms k hk).2 w (h.drop 2)) a4) ?_))))
    rintro g9 h0 ⟨d9,e0,rfl,e1⟩
    refine Lz (Dz (bX [4,6] (Hg 3 (.eJ (.int .u16 ((cF (a.ml.getD k aJ)).length:Nat)) (.gen [])) [.prop (Value.int .u16 (IntKind.u16.wrap ((cF (a.ml.getD k aJ)).length:Nat))=Value.int .u16 ((cF (a.ml.getD k aJ)).length:Nat))] (aL (vW za za) aO) Hz) (dE (f:=57) (args:=#[.slice a7 ((pA a++(a.ml.take k).flatMap (λm=>nC (cF m))).length) c1,.int .u16 ((cF (a.ml.getD k aJ)).length:Nat)]) Tryz.call57 (su (pA a++(a.ml.take k).flatMap (λm=>nC (cF m))) ((cF (a.ml.getD k aJ)).length:Nat) ze za (e1.pl 1)) ?_)))
    rintro h1 h2 ⟨e3,e4,rfl,a8⟩
    refine Lo (Lw (aU.append rfl zk aP aF (ad:=e3) (c:=e4) (xs:=(pA a++(a.ml.take k).flatMap (λm=>nC (cF m)))++hf ((cF (a.ml.getD k aJ)).length:Nat)) (ys:=cF (a.ml.getD k aJ)) (adx:=d9) (cx:=e0) (0:Int) zk a8 (a8.rows 1 rfl aF.size (0:Int)) (a8.dI 1 rfl) ze ze λa9 b0 h3 e5=>Lo (bO (Lm (Lt (Dz (cS (dW 1 ((k:Nat)+1) Hz) ?_)))))))
    have e6:=((e5.pl 2).pl 1).pl 2
    exact aN.pick [4,3,1] (S':=[(4,.int .i64 ((k:Nat)+1)),(3,.slice a9 ((((pA a++(a.ml.take k).flatMap (λm=>nC (cF m)))++hf ((cF (a.ml.getD k aJ)).length:Nat))++(cF (a.ml.getD k aJ))).length) b0),(1,zP b 0)]) zk (aN.fK (S':=[(4,.int .i64 ((k:Nat)+1)),(3,.slice a9 ((pA a++(a.ml.take (k+1)).flatMap (λm=>nC (cF m))).length) b0),(1,zP b 0)]) (by rw [(show((pA a++(a.ml.take k).flatMap (λm=>nC (cF m)))++hf ((cF (a.ml.getD k aJ)).length:Nat))++(cF (a.ml.getD k aJ))=pA a++(a.ml.take (k+1)).flatMap (λm=>nC (cF m)) by rw [tC hk,show nC (cF (a.ml.getD k aJ))=hf ((cF (a.ml.getD k aJ)).length:Nat)++cF (a.ml.getD k aJ) from rfl];simp only [List.append_assoc])]) (aN.back (k+1,some ⟨x,z,none⟩,a9,b0) [1,3,4] zk (by show a.ml.length-(k+1)<a.ml.length-k;omega) ⟨⟨za,yU hk hp.2.1 hmk,hw⟩,Mz (e6.dr 1) (show((pA a++(a.ml.take k).flatMap (λm=>nC (cF m)))++hf ((cF (a.ml.getD k aJ)).length:Nat))++(cF (a.ml.getD k aJ))=pA a++(a.ml.take (k+1)).flatMap (λm=>nC (cF m)) by rw [tC hk,show nC (cF (a.ml.getD k aJ))=hf ((cF (a.ml.getD k aJ)).length:Nat)++cF (a.ml.getD k aJ) from rfl];simp only [List.append_assoc])⟩))
  ·have hke:a.ml.take k=a.ml:=List.take_of_length_le za
   refine En (Lx (kD (kE (Lh (Lt (Lq (Le (Dz (bL (v:=.slice a7 ((pA a++(a.ml.take k).flatMap (λm=>nC (cF m))).length) c1) ?_)))))))))
   have e9:=(i.pl 0).pl 1
   have o:pA a++(a.ml.take k).flatMap (λm=>nC (cF m))=dO a:=by
    unfold dO
    rw [if_neg za,if_pos (by rw [<- hke];exact hp.2.1),hke]
   exact⟨a7,c1,by rw [<- o],by rw [<- o];exact(e9.dr 1)⟩
end
def ur (s:CS):aD×Bool×CS :=
 let h:=jF s
 let o:=tk h.1 h.2
 ((getM o.1).1,decide ((getM o.1).2=0),o.2)
theorem Fq {s s1 s2:CS}{n:Nat}{l:List Int}{m:aD}{e:Int}(h1:jF s=(n,s1)) (h2:tk n s1=(l,s2)) (h3:getM l=(m,e)):ur s=(m,decide (e=0),s2):=by
 unfold ur
 simp only [h1,h2,h3]
def ND:List aD->cA
 | []=>St.nothing
 | m::l=>cA.and (Sl m.bd.qa m.bd.qc 190 2 bS.cells m.bd.ql) (ND l)
def QS (l:List aD):cA:=ND l.reverse
theorem IU (l:List aD) (m:aD):QS (l++[m])=cA.and (Sl m.bd.qa m.bd.qc 190 2 bS.cells m.bd.ql) (QS l):=by
 unfold QS
 rw [List.reverse_append]
 rfl
theorem Cx {w:World}:∀ {l:List aD},(ND l).holds w->∀ m∈l,aB w m.bd.qa m.bd.ql.length 2 (λj=>bS.cells (m.bd.ql.getD j cD))
 | [],_,m,hm=>by cases hm
 | a::l,h,m,hm=>by
  rcases List.mem_cons.1 hm with rfl|hm
  ·exact Sl.rows vu.size h.1 cD
  ·exact Cx h.2.1 m hm
theorem rH {w:World}{l:List aD}(h:(QS l).holds w){k:Nat}(hk:k<l.length):aB w (l.getD k aJ).bd.qa (l.getD k aJ).bd.ql.length 2 (λj=>bS.cells ((l.getD k aJ).bd.ql.getD j cD)) :=
 Cx h _ (List.mem_reverse.2 (bC (d:=aJ) hk))
def yV:Nat->CS->List aD->List aD×Bool×CS
 | 0,s,l=>(l,true,s)
 | n+1,s,l=>if s.2=true then (l,true,s) else if (ur s).2.1=false then (l,false,(ur s).2.2) else yV n (ur s).2.2 (l++[(ur s).1])
theorem nE {n:Nat}{s:CS}{l:List aD}(h:n=0\/s.2=true):yV n s l=(l,true,s):=by
 cases n with
 | zero=>rfl
 | succ n=>exact if_pos (h.resolve_left za)
theorem Fs {n:Nat}{s s1:CS}{l:List aD}{m:aD}(hn:0<n) (hs:s.2=false) (h:ur s=(m,false,s1)):yV n s l=(l,false,s1):=by
 obtain⟨n,rfl⟩:∃ k,n=k+1:=⟨n-1,za⟩
 unfold yV
 rw [if_neg (by rw [hs];decide),if_pos (by rw [h]),h]
theorem wW {n:Nat}{s s1:CS}{l:List aD}{m:aD}(hn:0<n) (hs:s.2=false) (h:ur s=(m,true,s1)):yV n s l=yV (n-1) s1 (l++[m]):=by
 obtain⟨n,rfl⟩:∃ k,n=k+1:=⟨n-1,za⟩
 rw [Nat.add_sub_cancel]
 rw [yV,if_neg (by rw [hs];decide),if_neg (by rw [h];simp),h]
def qN (b:List Int):aX×Int :=
 let w:=aW (b,false)
 let z:=aW w.2
 if 32768<z.1 then (dV,5) else
 let t:=tk z.1.toNat z.2
 let h:=jF t.2
 let q:=yV h.1 h.2 []
 if q.2.1=false then (dV,5) else
 if q.2.2.2=true\/dO ⟨w.1,none,0,t.1,none,0,q.1⟩≠b then (dV,5) else (⟨w.1,none,0,t.1,none,0,q.1⟩,0)
theorem A5 {s s1 s2:CS}{n:Nat}{l:List Int}{m:aD}{e:Int}(h1:jF s=(n,s1)) (h2:tk n s1=(l,s2)) (h3:getM l=(m,e)) (he:e=0):ur s=(m,true,s2):=by
 rw [Fq h1 h2 h3,he]
 rfl
theorem Ft {s s1 s2:CS}{n:Nat}{l:List Int}{m:aD}{e:Int}(h1:jF s=(n,s1)) (h2:tk n s1=(l,s2)) (h3:getM l=(m,e)) (he:¬ e=0):ur s=(m,false,s2):=by
 rw [Fq h1 h2 h3,decide_eq_false he]
section
variable {b t : List Int} {ct : Int} {s1 s2 s3 s4 s5 : CS} {z n : Nat} {l : List aD} (h1 : aW (b, false) = (ct, s1)) (h2 : aW s1 = ((z : Int), s2)) (hz : ¬ 32768 < (z : Int)) (h3 : tk z s2 = (t, s3)) (h4 : jF s3 = (n, s4))
include h1 h2 hz h3 h4
theorem Cy (h5:yV n s4 []=(l,false,s5)):qN b=(dV,5):=by
 unfold qN
 simp only [h1,h2,Int.toNat_natCast,h3,h4,h5]
 exact(if_neg hz).trans (if_pos (by trivial))
theorem rI (h5:yV n s4 []=(l,true,s5)) (h6:s5.2=true\/dO ⟨ct,none,0,t,none,0,l⟩≠b):qN b=(dV,5):=by
 unfold qN
 simp only [h1,h2,Int.toNat_natCast,h3,h4,h5]
 exact(if_neg hz).trans ((if_neg zf).trans (if_pos h6))
theorem wX (h5:yV n s4 []=(l,true,s5)) (h6:¬ (s5.2=true\/dO ⟨ct,none,0,t,none,0,l⟩≠b)):qN b=(⟨ct,none,0,t,none,0,l⟩,0):=by
 unfold qN
 simp only [h1,h2,Int.toNat_natCast,h3,h4,h5]
 exact(if_neg hz).trans ((if_neg zf).trans (if_neg h6))
end
theorem IV (m:aD):dN (gM m)=dN m:=rfl
theorem IW (m:aD):cF (gM m)=cF m:=rfl
theorem nY (ct:Int) (sa ma:Option Addr) (sc mc:Nat) (t:List Int) (l:List aD):dO ⟨ct,none,0,t,none,0,l.map gM⟩=dO ⟨ct,sa,sc,t,ma,mc,l⟩:=by
 have e1:(∀ m∈l.map gM,dN m=true)↔∀ m∈l,dN m=true:=by
  simp only [List.mem_map,forall_exists_index,and_imp,forall_apply_eq_imp_iff₂,IV]
 have e2:(l.map gM).flatMap (λm=>nC (cF m))=l.flatMap (λm=>nC (cF m)):=by
  rw [List.flatMap_map]
  simp only [IW]
 unfold dO pA
 simp only [List.length_map,e1,e2]
theorem Mc {n:Nat}(h:0<n) (h2:n<=65535):IntKind.u16.wrap ((n:Int)-1)=((n-1:Nat):Int):=by
 show((n:Int)-1) % 65536=_
 omega
theorem IX (n:Int):gJ (hf n):=λz hz=>by
 rcases List.mem_cons.1 hz with rfl|hz
 ·exact iW _
 ·rw [List.mem_singleton.1 hz];exact iW _
theorem IY {m:aD}(h:dw m):gJ (cF m):=by
 unfold cF
 split
 ·exact((gJ.nil.app (lY _)).app (tj h)).app h.tg
 ·exact gJ.nil
theorem mT {a:aX}(h:gJ a.sl) (hm:∀ m∈a.ml,dw m):gJ (dO a):=by
 unfold dO
 split
 ·exact gJ.nil
 ·split
  ·refine gJ.app (gJ.app (gJ.app (gJ.app (lY _) (lY _)) h) (IX _)) (λz hz=>?_)
   obtain⟨m,h1,h2⟩:=List.mem_flatMap.1 hz
   exact(gJ.app (m:=cF m) (λz hz=>IX _ z hz) (IY (hm m h1))) z h2
  ·exact gJ.nil
def qO (a:aX):aX:=⟨a.ct,none,0,a.sl,none,0,a.ml.map gM⟩
theorem uu {w0 w:World}{L:List cA}{ad:Option Addr}{cb:Nat}(b:List Int) (hsome:xP ad cb) (hbl:b.length<=100000) (hbb:∀ z∈b,0<=z/\z<256) (hr:∀ w,St w0 L w->aB w ad b.length 1 (λk=>aA (b.getD k 0))) (hs:St w0 L w):Calls Tryz.prog 14 #[.slice ad b.length cb] w (pE λrv w'=>∃ (x2:aX) (ee2:Int),rv=.tuple #[.agg (aX.cells x2),.int .i64 ee2]/\qN b=(qO x2,ee2)/\(0<=x2.ct/\x2.ct<=18446744073709551615)/\(∀ m∈x2.ml,dw m)/\(∀ z∈x2.sl,0<=z/\z<256)/\St w0 (Sl x2.sa x2.sc 5 1 aA x2.sl::Sl x2.ma x2.mc 51 121 aD.cells x2.ml::QS x2.ml::L) w'):=by
 refine cL Tryz.func14 Tryz.ntmps14 (En (Ls (Lg [0] (Dz (eN (aX.cells dV) hs λb1 w2 hs3=>Lz (Ls (Lg [1] (Lw (dE (f:=60) (args:=#[.slice ad b.length cb]) Tryz.call60 (mP b zc hsome (λw h=>hr _ (h.drop 1)) hs3) ?_)))))))))
 rintro v8 w9 ⟨cc4,ao5,co6,rfl,hs7⟩
 have hq10:bG (Sl ao5 co6 5 1 aA b) ao5 b co6:=bG.new hs7 (j:=1) rfl hbb za
 refine Lz (Ls (Lg [1,3,4] (Lw (dE (f:=61) (args:=#[zP cc4 0]) Tryz.call61 (bT (Sl ao5 co6 5 1 aA b) b false (λw h=>h.at_ 0 rfl) hq10 hs7) ?_))))
 rintro v20 w21 ⟨vv11,rr12,sp13,az14,cz15,rfl,he16,hwr17,hq218,hs19⟩
 refine Lo (Lw (eN (aX.cells dV) hs19 λb22 w23 hs24=>Lo (Dz (Zu 0 0 (aX.cells (⟨vv11,none,0,[],none,0,[]⟩:aX)) hs24 λw25 hs26=>Lo (Ld (Lt (Ls (Lg [1] (Lw (dE (f:=61) (args:=#[zP cc4 0]) Tryz.call61 (bT (Sl ao5 co6 5 1 aA b) rr12 sp13 (λw h=>h.at_ 1 rfl) hq218 (hs26.pl 1)) ?_))))))))))
 rintro v37 w38 ⟨vv28,rr29,sp30,az31,cz32,rfl,he33,hwr34,hq235,hs36⟩
 refine Lz (Ls (Lq (Dz (Zi ((vv28:Int)>32768) (λh39'=>?_) (λh39'=>?_)))))
 ·refine En (Ls (Lg [1] (Lw (Zu 3 0 (aX.cells dV) hs36 λw40 hs41=>Lz (Le (Ly (Dz (mZ 3 (.int .i64 5) hs41 ?_))))))))
  have hs42:=St.bJ hs41 5 1 aA
  have hs43:=St.bJ hs42 51 121 aD.cells
  have hs44:=St.fD hs43
  have hs45:=((((((hs44.pl 0).pl 1).pl 2).pl 6).pl 6).pl 6).pl 6
  exact⟨dV,5,rfl,(by unfold qN;simp only [he16,he33];rw [if_pos za];rfl),zf,(λm hm=>by cases hm),(λz hz=>by cases hz),hs45.dr 4⟩
 ·refine Zn [(18,.bool (decide ((vv28:Int)>32768))),(6,.int .u64 vv28),(5,zP b22 0),(4,zP cc4 0),(3,.int .i64 0),(2,zP b1 0),(0,.slice ad b.length cb)] ?_
  obtain⟨zn,hzn⟩:∃ n:Nat,vv28=n:=⟨vv28.toNat,za⟩
  subst hzn
  refine Zk (Zt (Zs (bX [3,5] (dW 2 (zn:Nat) Hz) (dE (f:=62) (args:=#[zP cc4 0,.int .i64 (zn:Nat)]) Tryz.call62 (mO (Sl ao5 co6 5 1 aA b) rr29 sp30 zn (λw h=>h.at_ 1 rfl) hq235 hs36) ?_))))
  rintro v57 w58 ⟨ao47,co48,ll49,rr50,sp51,az52,cz53,rfl,he54,hq255,hs56⟩
  refine Lo (Lw (Zu 2 1 (aX.cells (⟨vv11,ao47,co48,ll49,none,0,[]⟩:aX)) hs56 λw59 hs60=>Lo (Ld (Lt (Ls (Ls (Lg [1] (Lw (dE (f:=63) (args:=#[zP cc4 0]) Tryz.call63 (pJ (Sl ao5 co6 5 1 aA b) rr50 sp51 (λw h=>h.at_ 2 rfl) hq255 (hs60.pl 1)) ?_)))))))))
  rintro v71 w72 ⟨nn62,rr63,sp64,az65,cz66,rfl,he67,hns68,hq269,hs70⟩
  refine Lz (Lb (Dz ?_))
  have hs73:=St.bJ hs70 51 121 aD.cells
  have hs74:=St.fD hs73
  have hs75:=((((((hs74.pl 6).pl 6).pl 5).pl 5).pl 6).pl 5).pl 6
  have hs76:St w0 (Sl none 0 51 121 aD.cells ([]:List aD)::QS ([]:List aD)::aC b22 (aX.cells (⟨vv11,ao47,co48,ll49,none,0,([]:List aD)⟩:aX)) 31::aC cc4 #[.slice az65 rr63.length cz66,.bool sp64] 173::Sl ao47 co48 5 1 aA ll49::Sl ao5 co6 5 1 aA b::aC b1 (aX.cells dV) 31::L) w72:=hs75
  refine bH.loop (T:=Nat×(List Int)×Bool×(Option Addr)×Nat×(Option Addr)×Nat×(List aD)) (λgg=>[(0,.slice ad b.length cb),(2,zP b1 0),(4,zP cc4 0),(5,zP b22 0),(7,.int .u16 (gg.1:Nat))]) (λgg w=>(gg.1<=65535/\yV nn62 (rr63,sp64) []=yV gg.1 (gg.2.1,gg.2.2.1) (gg.2.2.2.2.2.2.2.map gM)/\bG (Sl ao5 co6 5 1 aA b) gg.2.2.2.1 gg.2.1 gg.2.2.2.2.1/\(∀ m∈gg.2.2.2.2.2.2.2,dw m)/\gg.2.2.2.2.2.2.2.length+gg.1<=65535)/\St w0 (Sl gg.2.2.2.2.2.1 gg.2.2.2.2.2.2.1 51 121 aD.cells gg.2.2.2.2.2.2.2::QS gg.2.2.2.2.2.2.2::aC b22 (aX.cells (⟨vv11,ao47,co48,ll49,gg.2.2.2.2.2.1,gg.2.2.2.2.2.2.1,gg.2.2.2.2.2.2.2⟩:aX)) 31::aC cc4 #[.slice gg.2.2.2.1 gg.2.1.length gg.2.2.2.2.1,.bool gg.2.2.1] 173::Sl ao47 co48 5 1 aA ll49::Sl ao5 co6 5 1 aA b::aC b1 (aX.cells dV) 31::L) w) (λgg=>gg.1) (nn62,rr63,sp64,az65,cz66,none,0,([]:List aD)) [0,2,4,5,7] zk ⟨⟨by have:=lV he67;omega,rfl,hq269,λm hm=>(by cases hm),by have:=lV he67;simp only [List.length_nil];omega⟩,hs76⟩ ?_
  rintro⟨n2,rr2,sp2,az2,cz2,qa1,qc1,ml1⟩ w77 ⟨hp,hs79⟩
  dsimp only at hp hs79
  refine En (Ls (Ls (Lg [4] (Dz (Zr 0 3 [] ?_)))))
  rcases Bool.eq_false_or_eq_true (decide (((n2:Nat):Int)>0)) with h80|h80
  ·refine py 29 true h80 ?_
   have h80':=of_decide_eq_true h80
   have hn2:0<n2:=za
   refine En (Lw (dE (f:=64) (args:=#[zP cc4 0]) Tryz.call64 (iQ rr2 sp2 (hs79.pl 3)) ?_))
   rintro v83 w84 ⟨rfl,hs82⟩
   refine Lz (Dz (cZ (t:=!sp2) (λh85=>?_) (λh85=>?_)))
   ·refine En (Lk (Lt (Ls (Lb (Ls (Lg [2,4,5,9,10] (Lw (dE (f:=63) (args:=#[zP cc4 0]) Tryz.call63 (pJ (Sl ao5 co6 5 1 aA b) rr2 sp2 (λw h=>h.at_ 4 rfl) hp.2.2.1 hs82) ?_))))))))
    rintro v95 w96 ⟨nn86,rr87,sp88,az89,cz90,rfl,he91,hns92,hq293,hs94⟩
    refine K8 (dW 3 (nn86:Nat) Hz) (dE (f:=62) (args:=#[zP cc4 0,.int .i64 (nn86:Nat)]) Tryz.call62 (mO (Sl ao5 co6 5 1 aA b) rr87 sp88 nn86 (λw h=>h.at_ 4 rfl) hq293 hs94) ?_)
    rintro v107 w108 ⟨ao97,co98,ll99,rr100,sp101,az102,cz103,rfl,he104,hq2105,hs106⟩
    refine Lo (Dz (dE (f:=65) (args:=#[.slice ao97 ll99.length co98]) Tryz.call65 (Ge ll99 (by have h9:=wq nn86 (rr87,sp88);rw [he104] at h9;have:=lV he91;simp only [] at h9;omega) (by have h9:=lW (n:=nn86) (s:=(rr87,sp88)) hq293.nV;rw [he104] at h9;exact h9) (λw h=>h.rows 0 rfl aF.size _) hs106) ?_))
    rintro v114 w115 ⟨mm109,ee110,rfl,he111,hok112,hs113⟩
    refine Lo (Lw (eN (aD.cells aJ) hs113 λb116 w117 hs118=>Lo (Dz (Zu 0 0 (aD.cells mm109) hs118 λw119 hs120=>Lz (Ls (Lq (Dz (cZ (t:=(ee110:Int) != 0) (λh121=>?_) (λh121=>?_)))))))))
    ·refine En (Ls (Lg [1] (Lw (Zu 9 0 (aX.cells dV) hs120 λw122 hs123=>Lz (Le (Ly (Ll (Ly (sT (Ll (Ly (Dz (mZ 9 (.int .i64 5) hs123 ?_)))))))))))))
     have hs124:=St.bJ hs123 5 1 aA
     have hs125:=St.bJ hs124 51 121 aD.cells
     have hs126:=St.fD hs125
     have hs127:=((((((((((((hs126.pl 0).pl 1).pl 2).pl 12).pl 12).pl 12).pl 12).pl 12).pl 12).pl 12).pl 12).pl 12).pl 12
     exact⟨dV,5,rfl,Cy he16 he33 za he54 he67 (hp.2.1.trans (Fs hn2 (by simpa using h85) (Ft he91 he104 he111 (by simpa using h121)))),zf,(λm hm=>by cases hm),(λz hz=>by cases hz),hs127.dr 10⟩
    ·refine Zk (Zt (bX [3,4,6] (Hl 1 6 2 hs120 (fE 2 0 0 121 (aD.cells mm109) hs120 Hz)) (aU.cT rfl zk (t:=24) (e:=51) (n:=1) (ps:=[(0,.agg (aD.cells mm109))]) zk zk (ti:=Tryz.t51) (z:=.agg (aD.cells aJ)) zk zk zf zf (cs:=aD.cells mm109) zk hs120 λb129 w130 hs131 hz132=>?_)))
     have hs133:St w0 (Sl (some ⟨b129,0,none⟩) 1 51 121 aD.cells ([(mm109:aD)])::aC b116 (aD.cells mm109) 51::Sl mm109.bd.qa mm109.bd.qc 190 2 bS.cells mm109.bd.ql::Sl ao97 co98 5 1 aA ll99::aC cc4 #[.slice az102 rr100.length cz103,.bool sp101] 173::Sl qa1 qc1 51 121 aD.cells ml1::QS ml1::aC b22 (aX.cells (⟨vv11,ao47,co48,ll49,qa1,qc1,ml1⟩:aX)) 31::Sl ao47 co48 5 1 aA ll49::Sl ao5 co6 5 1 aA b::aC b1 (aX.cells dV) 31::L) w130:=St.lS (l:=[(mm109:aD)]) (f:=aD.cells) hs131 hz132 dJ.size zl zk
     refine Lo (Dz (oV eH dJ aJ (hs133.pl 5) zj λad137 c138 w134 hs135=>Lo (Lw (Zu 7 2 (aX.cells (⟨vv11,ao47,co48,ll49,ad137,c138,(ml1++([(mm109:aD)]))⟩:aX)) hs135 λw139 hs140=>Lo (Ld (Lm (Lt (Dz (cS (Hg 1 (.eJ (.int .u16 ((n2-1:Nat):Nat)) (.gen [])) [.prop (Value.int .u16 (IntKind.u16.wrap ((n2:Nat)-1))=Value.int .u16 ((n2-1:Nat):Nat))] (aL (congrArg (Value.int .u16) (Mc hn2 za)) aO) Hz) ?_)))))))))
     have hs141:=((((((((((hs140.pl 10).pl 10).pl 10).pl 8).pl 10).pl 5).pl 10).pl 9).pl 10).pl 10).pl 10
     have hs142:=hs141.dr 3
     have hs143:St w0 (QS (ml1++[mm109])::Sl ad137 c138 51 121 aD.cells (ml1++([(mm109:aD)]))::aC b22 (aX.cells (⟨vv11,ao47,co48,ll49,ad137,c138,(ml1++([(mm109:aD)]))⟩:aX)) 31::aC cc4 #[.slice az102 rr100.length cz103,.bool sp101] 173::Sl ao47 co48 5 1 aA ll49::Sl ao5 co6 5 1 aA b::aC b1 (aX.cells dV) 31::L) w139:=by rw [IU];exact St.join hs142
     exact aN.back ((n2-1),rr100,sp101,az102,cz103,ad137,c138,(ml1++[mm109])) [0,2,4,5,7] zk (by show(n2-1)<n2;omega) ⟨⟨za,by rw [hp.2.1,wW hn2 (by simpa using h85) (A5 he91 he104 he111 (by simpa using h121)),List.map_append];rfl,hq2105,λm hm=>(List.mem_append.1 hm).elim (hp.2.2.2.1 m) (λh9=>by rw [List.mem_singleton.1 h9];exact hok112),by show(ml1++[_]).length+(n2-1)<=65535;have:=hp.2.2.2.2;simp only [List.length_append,List.length_cons,List.length_nil];omega⟩,((((((hs143.pl 6).pl 6).pl 6).pl 6).pl 6).pl 5).pl 6⟩
   ·have hend:n2=0\/sp2=true:=.inr (by simpa using h85)
    refine En (Lx (kD (kE (Lh (Lt (Ls (Ls (Lg [1,5,7] (Lw (dE (f:=64) (args:=#[zP cc4 0]) Tryz.call64 (iQ rr2 sp2 hs82) ?_))))))))))
    rintro v146 w147 ⟨rfl,hs145⟩
    refine Lo (Dz (Zr 2 2 [] (py 56 true (congrArg not h85) (En (Lw (gH (En (Lw (gH (En (bO (Lt (LT (Ls (Lg [1] (Lw (Zu 6 0 (aX.cells dV) hs145 λw148 hs149=>Lz (Le (Ly (Dz (mZ 6 (.int .i64 5) hs149 ?_)))))))))))))))))))))
    have hs150:=St.bJ hs149 5 1 aA
    have hs151:=St.bJ hs150 51 121 aD.cells
    have hs152:=St.fD hs151
    have hs153:=(((((((((hs152.pl 0).pl 1).pl 2).pl 9).pl 9).pl 9).pl 9).pl 9).pl 9).pl 9
    exact⟨dV,5,rfl,rI he16 he33 za he54 he67 (hp.2.1.trans (nE hend)) (.inl (by simpa using h85)),zf,(λm hm=>by cases hm),(λz hz=>by cases hz),hs153.dr 7⟩
  ·refine py 29 false h80 ?_
   have h80':=of_decide_eq_false h80
   have hend:n2=0\/sp2=true:=.inl za
   refine En (Lw (gH (En (bO (Lt (LF (Lx (kD (kE (Lh (Lt (Ls (Ls (Lg [1,5,7] (Lw (dE (f:=64) (args:=#[zP cc4 0]) Tryz.call64 (iQ rr2 sp2 (hs79.pl 3)) ?_))))))))))))))))
   rintro v157 w158 ⟨rfl,hs156⟩
   refine Lo (Dz (Zr 2 2 [] ?_))
   rcases Bool.eq_false_or_eq_true (!(!sp2)) with h159|h159
   ·refine py 56 true h159 (En (Lw (gH (En (Lw (gH (En (bO (Lt (LT (Ls (Lg [1] (Lw (Zu 6 0 (aX.cells dV) hs156 λw160 hs161=>Lz (Le (Ly (Dz (mZ 6 (.int .i64 5) hs161 ?_))))))))))))))))))
    have hs162:=St.bJ hs161 5 1 aA
    have hs163:=St.bJ hs162 51 121 aD.cells
    have hs164:=St.fD hs163
    have hs165:=(((((((((hs164.pl 0).pl 1).pl 2).pl 9).pl 9).pl 9).pl 9).pl 9).pl 9).pl 9
    exact⟨dV,5,rfl,rI he16 he33 za he54 he67 (hp.2.1.trans (nE hend)) (.inl (by simpa using h159)),zf,(λm hm=>by cases hm),(λz hz=>by cases hz),hs165.dr 7⟩
   ·refine py 56 false h159 ?_
    obtain⟨xx,hxx⟩:∃ s:aX,s=(⟨vv11,ao47,co48,ll49,qa1,qc1,ml1⟩:aX):=⟨_,rfl⟩
    have hs167:St w0 (aC cc4 #[.slice az2 rr2.length cz2,.bool sp2] 173::Sl xx.ma xx.mc 51 121 aD.cells xx.ml::QS xx.ml::aC b22 (aX.cells xx) 31::Sl xx.sa xx.sc 5 1 aA xx.sl::Sl ao5 co6 5 1 aA b::aC b1 (aX.cells dV) 31::L) w158:=(by rw [hxx];exact hs156)
    have hxm:∀ m∈xx.ml,dw m:=by rw [hxx];exact hp.2.2.2.1
    have hxl:xx.sl.length<=100000/\xx.ml.length<=65535/\0<=xx.ct/\xx.ct<=18446744073709551615:=by
     rw [hxx]
     have h8:=hp.2.2.2.2
     have h9:=wq zn (rr29,sp30)
     rw [he54] at h9
     have h7:=cC he16
     simp only [] at h9 h8 ⊢
     omega
    refine Zj (fE 4 3 0 3 (aX.cells xx) hs167 Hz) (Zc (uq xx za (λk hk=>⟨hxm _ (bC (d:=aJ) hk),λw h=>rH (h.at_ 2 rfl) hk⟩) (hs167.dI 4 rfl) za (λw h=>h.rows 1 rfl dJ.size _) (λw h=>h.rows 4 rfl aF.size _) hs167) ?_)
    rintro v171 w172 ⟨ao168,co169,rfl,hs170⟩
    refine Lo (Lw ?_)
    have hxb:∀ z∈xx.sl,0<=z/\z<256:=by
     rw [hxx]
     have h9:=lW (n:=zn) (s:=(rr29,sp30)) hq235.nV
     rw [he54] at h9
     exact h9
    refine dE (f:=66) (args:=#[.slice ao168 ((dO xx).length) co169,.slice ad b.length cb]) Tryz.call66 (pL (dO xx) b (mT hxb hxm) hbb (λw h=>h.rows 0 rfl aF.size _) (λw h=>hr _ (h.drop 8)) hs170) ?_
    rintro v174 w175 ⟨rfl,hs173⟩
    refine Lz (Dz (cZ (t:=!(decide ((dO xx)=b))) (λh176=>?_) (λh176=>?_)))
    ·refine En (Ls (Lg [1] (Lw (Zu 7 0 (aX.cells dV) hs173 λw177 hs178=>Lz (Le (Ly (Dz (mZ 7 (.int .i64 5) hs178 ?_))))))))
     have hs179:=St.bJ hs178 5 1 aA
     have hs180:=St.bJ hs179 51 121 aD.cells
     have hs181:=St.fD hs180
     have hs182:=((((((((((hs181.pl 0).pl 1).pl 2).pl 10).pl 10).pl 10).pl 10).pl 10).pl 10).pl 10).pl 10
     exact⟨dV,5,rfl,rI he16 he33 za he54 he67 (hp.2.1.trans (nE hend)) (.inr λh7=>(show ¬ dO xx=b by simpa using h176) (by rw [hxx];exact(nY _ _ _ _ _ _ _).symm.trans h7)),zf,(λm hm=>by cases hm),(λz hz=>by cases hz),hs182.dr 8⟩
    ·refine Zk (Zt (Zs (bX [1] (fE 0 4 0 3 (aX.cells xx) hs173 Hz) (Zu 7 0 (aX.cells xx) hs173 λw184 hs185=>Lz (Le (Dz (mZ 7 (.int .i64 0) hs185 ?_)))))))
     have hs186:=(((((((hs185.pl 3).pl 3).pl 5).pl 7).pl 7).pl 7).pl 7).pl 7
     exact⟨xx,0,rfl,(by rw [hxx];exact wX he16 he33 za he54 he67 (hp.2.1.trans (nE hend)) (λh6=>h6.elim (λh7=>Bool.noConfusion (h7.symm.trans (show sp2=false from(by simpa using h159)))) (λh7=>h7 ((nY _ _ _ _ _ _ _).trans (hxx▸(show dO xx=b by simpa using h176)))))),za,hxm,hxb,hs186.dr 5⟩
section
variable {w0 w : World} {L : List cA} {ad : Option Addr} {cb : Nat}
theorem vH {n:Nat}{s:CS}{m:Nat}(h:s.1.length<=m):(tk n s).1.length<=m:=by
 unfold tk
 split
 ·exact Nat.zero_le _
 ·rw [List.length_take];omega
theorem GH {l:List Int}{m:aD}{e:Int}(h:getM l=(m,e)) (he:¬ e=0):e=5:=by
 have a:(getM l).2=0\/(getM l).2=5:=by
  unfold getM
  split
  ·exact .inr rfl
  ·simp only []
   unfold ofM
   simp only []
   repeat' split
   all_goals first|exact .inl rfl|exact .inr rfl
 rw [h] at a
 exact a.resolve_left he
theorem Kp {m:aD}{e:List Int}(h:dN m=true) (hm:dw m):ur (nC (cF m)++e,false)=(gM m,true,(e,false)):=by
 have hl:=tn h
 rw [nC,List.append_assoc]
 exact A5 (tq za) (qD rfl) (Gg h hm) rfl
theorem A6 (e:List Int):∀ (l q:List aD),(∀ m∈l,dN m=true/\dw m)->yV l.length (l.flatMap (λm=>nC (cF m))++e,false) q=(q++l.map gM,true,(e,false))
 | [],q,_=>by rw [List.map_nil,List.append_nil];rfl
 | m::l,q,h=>by
  rw [List.flatMap_cons,List.append_assoc,List.length_cons,wW (Nat.succ_pos _) rfl (Kp (h m (List.mem_cons_self ..)).1 (h m (List.mem_cons_self ..)).2),show l.length.succ-1=l.length from rfl,A6 e l _ (λm' hm=>h m' (List.mem_cons_of_mem _ hm)),List.append_assoc]
  rfl
theorem Kq (l:List Int):aW (l,true)=(0,(l,true)):=by rfl
theorem Kr (l:List Int):jF (l,true)=(0,(l,true)):=by rfl
theorem NF (n:Nat) (l:List Int):tk n (l,true)=([],(l,true)):=by rfl
theorem MW {b t r:List Int}{ct:Int}{s1 s2 s3 s4:CS}{z n:Nat}{l:List aD}(h1:aW (b,false)=(ct,s1)) (h2:aW s1=((z:Int),s2)) (h3:tk z s2=(t,s3)) (h4:jF s3=(n,s4)) (h5:yV n s4 []=(l.map gM,true,(r,false))) (hm:∀ m∈l,dw m) (hp:dO ⟨ct,none,0,t,none,0,l⟩=b):r=[]:=by
 have hb:b≠[]:=λe=>by
  subst e
  rw [show aW (([]:List Int),false)=(0,([],true)) from rfl] at h1
  cases h1
  rw [Kq] at h2
  obtain⟨f,a⟩:=Prod.mk.inj h2
  subst a
  rw [NF] at h3
  cases h3
  rw [Kr] at h4
  cases h4
  rw [show yV 0 (([]:List Int),true) []=([],true,([],true)) from rfl] at h5
  exact Bool.noConfusion (congrArg (λx:List aD×Bool×CS=>x.2.2.2) h5)
 have hct:=cC h1
 unfold dO at hp
 split at hp
 ·exact absurd hp.symm hb
 rename_i hlen
 split at hp
 ·rename_i hma
  have hma':∀ m∈l,dN m=true/\dw m:=λm h=>⟨hma m h,hm m h⟩
  rw [<- hp] at h1
  unfold pA at h1
  simp only [List.append_assoc] at h1
  simp only [] at hlen
  rw [eV za] at h1
  cases h1
  rw [eV za] at h2
  obtain⟨f,a⟩:=Prod.mk.inj h2
  have i:z=t.length:=za
  subst a i
  rw [qD rfl] at h3
  cases h3
  rw [tq za] at h4
  cases h4
  have d:=A6 [] l [] hma'
  rw [List.append_nil] at d
  rw [d] at h5
  exact(congrArg (λx:List aD×Bool×CS=>x.2.2.1) h5).symm
 ·exact absurd hp.symm hb
theorem IZ {b:List Int}{ct z:Int}{s1 s2:CS}(h1:aW (b,false)=(ct,s1)) (h2:aW s1=(z,s2)) (hz:32768<z):qN b=(dV,5):=by
 unfold qN
 simp only [h1,h2]
 exact if_pos hz
theorem wY (Q:cA) (b:List Int) (hQ:∀ w,St w0 L w->Q.holds w) (hq:bG Q ad b cb) (hs:St w0 L w):Cs Tryz.prog 15 #[.slice ad b.length cb] w λrv w'=>∃ (x2:aX) (ee2:Int),rv=.tuple #[.agg (aX.cells x2),.int .i64 ee2]/\qN b=(qO x2,ee2)/\(0<=x2.ct/\x2.ct<=18446744073709551615)/\(∀ m∈x2.ml,dw m)/\(∀ z∈x2.sl,0<=z/\z<256)/\St w0 (Sl x2.sa x2.sc 5 1 aA x2.sl::Sl x2.ma x2.mc 51 121 aD.cells x2.ml::QS x2.ml::L) w':=by
 refine cL Tryz.func15 Tryz.ntmps15 (En (Ls (Lg [0] (Dz (eN (aX.cells dV) hs λb1 w2 g9=>Lz (Ls (Lg [2] (Lw (hG #[.slice ad b.length cb,.bool false] g9 λo w5 h0=>Lz (Ls (Lg [1,3,4] (Lw (dE (f:=67) (args:=#[zP o 0]) Tryz.call67 (hJ Q b false (λw h=>hQ w (h.drop 1)) hq h0) ?_)))))))))))))
 rintro p5 p6 ⟨a5,h1,h2,p7,p8,rfl,a6,p9,h3,h4⟩
 refine Lo (Lw (eN (aX.cells dV) h4 λa3 q0 h5=>Lo (Dz (Zu 0 0 (aX.cells (⟨a5,none,0,[],none,0,[]⟩:aX)) h5 λq1 i0=>Lo (Ld (Lt (Ls (Lg [1] (Lw (dE (f:=67) (args:=#[zP o 0]) Tryz.call67 (hJ Q h1 h2 (λw h=>hQ w (h.drop 2)) h3 (i0.pl 1)) ?_))))))))))
 rintro q2 q3 ⟨b8,b9,c0,q4,q5,rfl,a7,q6,c6,e8⟩
 refine Lz (Ls (Lq (Dz (Zi ((b8:Int)>32768) (λi2=>?_) (λi2=>?_)))))
 ·refine En (Ls (Lg [1] (Lw (Zu 2 0 (aX.cells dV) e8 λq7 e9=>Lz (Le (Ly (Dz (mZ 2 (.int .i64 5) e9 ?_))))))))
  have i3:=St.bJ e9 5 1 aA
  have i4:=St.bJ i3 51 121 aD.cells
  have i5:=St.fD i4
  have i6:=(((((i5.pl 0).pl 1).pl 2).pl 5).pl 5).pl 5
  exact⟨dV,5,rfl,IZ a6 a7 za,zf,(λm hm=>by cases hm),(λz hz=>by cases hz),i6.dr 3⟩
 ·refine Zn [(21,.bool (decide ((b8:Int)>32768))),(6,.int .u64 b8),(5,zP a3 0),(4,zP o 0),(3,.int .i64 0),(2,zP b1 0),(0,.slice ad b.length cb)] ?_
  obtain⟨zn,hzn⟩:∃ n:Nat,b8=n:=⟨b8.toNat,za⟩
  subst hzn
  refine Zk (Zt (Zs (bX [3,5] (dW 2 (zn:Nat) Hz) (dE (f:=68) (args:=#[zP o 0,.int .i64 (zn:Nat)]) Tryz.call68 (pb Q b9 c0 zn (λw h=>hQ w (h.drop 2)) c6 e8) ?_))))
  rintro q8 q9 ⟨a0,a1,q,i8,i9,r0,r4,rfl,a4,j0,f0⟩
  have j1:∀ z∈q,0<=z/\z<256:=by have a:=lW (n:=zn) (s:=(b9,c0)) c6.nV;rw [a4] at a;exact a
  have j2:q.length<=1000000:=by have a:=vH (n:=zn) (s:=(b9,c0)) (m:=1000000) c6.len;rw [a4] at a;exact a
  have r5:=bG.new f0 (j:=0) rfl j1 j2
  refine Lo (Lw (Zu 2 1 (aX.cells (⟨a5,a0,a1,q,none,0,[]⟩:aX)) f0 λr6 j3=>Lo (Ld (Lt (Ls (Lg [1] (Lw (dE (f:=69) (args:=#[zP o 0]) Tryz.call69 (sv Q i8 i9 (λw h=>hQ w (h.drop 3)) j0 (j3.pl 1)) ?_))))))))
  rintro r7 j5 ⟨i,d4,d5,f1,f2,rfl,a8,r8,j6,j7⟩
  refine BS (dW 2 (i:Nat) Hz) (En (Lt (Ls (Lq (Lb (Dz ?_))))))
  have j8:=St.bJ j7 51 121 aD.cells
  have j9:=St.fD j8
  have k0:=(((((j9.pl 5).pl 4).pl 4).pl 5).pl 4).pl 5
  have k1:St w0 (Sl none 0 51 121 aD.cells ([]:List aD)::QS ([]:List aD)::aC a3 (aX.cells (⟨a5,a0,a1,q,none,0,([]:List aD)⟩:aX)) 35::aC o #[.slice f1 d4.length f2,.bool d5] 115::Sl a0 a1 5 1 aA q::aC b1 (aX.cells dV) 35::L) j5:=k0
  refine bH.loop (T:=Nat×(List Int)×Bool×(Option Addr)×Nat×(Option Addr)×Nat×(List aD)) (λgg=>[(0,.slice ad b.length cb),(2,zP b1 0),(4,zP o 0),(5,zP a3 0),(7,.int .i64 (i:Nat)),(8,.int .i64 (gg.1:Nat))]) (λgg w=>(gg.1<=i/\yV i (d4,d5) []=yV (i-gg.1) (gg.2.1,gg.2.2.1) (gg.2.2.2.2.2.2.2.map gM)/\bG Q gg.2.2.2.1 gg.2.1 gg.2.2.2.2.1/\(∀ m∈gg.2.2.2.2.2.2.2,dw m)/\gg.2.2.2.2.2.2.2.length<=gg.1)/\St w0 (Sl gg.2.2.2.2.2.1 gg.2.2.2.2.2.2.1 51 121 aD.cells gg.2.2.2.2.2.2.2::QS gg.2.2.2.2.2.2.2::aC a3 (aX.cells (⟨a5,a0,a1,q,gg.2.2.2.2.2.1,gg.2.2.2.2.2.2.1,gg.2.2.2.2.2.2.2⟩:aX)) 35::aC o #[.slice gg.2.2.2.1 gg.2.1.length gg.2.2.2.2.1,.bool gg.2.2.1] 115::Sl a0 a1 5 1 aA q::aC b1 (aX.cells dV) 35::L) w) (λgg=>i-gg.1) (0,d4,d5,f1,f2,none,0,([]:List aD)) [0,2,4,5,7,8] zk ⟨⟨Nat.zero_le _,rfl,j6,λm hm=>(by cases hm),Nat.le_refl _⟩,k1⟩ ?_
  rintro⟨ii,b0,x,f3,f4,c1,c2,a2⟩ r9 ⟨hp,c7⟩
  dsimp only at hp c7
  refine Zs (Zs (bH.join (T:=Unit) (E:=λ_=>[(40,.bool ((decide ((ii:Int)<(i:Nat))) && (!x))),(0,.slice ad b.length cb),(2,zP b1 0),(4,zP o 0),(5,zP a3 0),(7,.int .i64 (i:Nat)),(8,.int .i64 (ii:Nat))]) (F:=λ_ w=>St w0 (Sl c1 c2 51 121 aD.cells a2::QS a2::aC a3 (aX.cells (⟨a5,a0,a1,q,c1,c2,a2⟩:aX)) 35::aC o #[.slice f3 b0.length f4,.bool x] 115::Sl a0 a1 5 1 aA q::aC b1 (aX.cells dV) 35::L) w) ?_ ?_))
  ·refine Zg [] (Zr 0 4 [] (dB 34 (decide ((ii:Int)<(i:Nat))) (λa9=>?_) (λa9=>?_)))
   ·exact lD (Hl 7 3 1 c7 Hz) (aN.pick [40,0,2,4,5,7,8] (S':=[(40,.bool (!x)),(0,.slice ad b.length cb),(2,zP b1 0),(4,zP o 0),(5,zP a3 0),(7,.int .i64 (i:Nat)),(8,.int .i64 (ii:Nat))]) zk (aN.eZ () (by first|rfl|(simp only [a9,Bool.not_true,Bool.not_false,Bool.true_or,Bool.false_or,Bool.true_and,Bool.false_and,Bool.or_true,Bool.or_false,Bool.and_true,Bool.and_false];done)|(simp [a9];done)) c7))
   ·exact En (bO (Dz (aN.pick [40,0,2,4,5,7,8] (S':=[(40,.bool false),(0,.slice ad b.length cb),(2,zP b1 0),(4,zP o 0),(5,zP a3 0),(7,.int .i64 (i:Nat)),(8,.int .i64 (ii:Nat))]) zk (aN.eZ () (by first|rfl|(simp only [a9,Bool.not_true,Bool.not_false,Bool.true_or,Bool.false_or,Bool.true_and,Bool.false_and,Bool.or_true,Bool.or_false,Bool.and_true,Bool.and_false];done)|(simp [a9];done)) c7))))
  intro _ s0 f5
  refine Zt (cZ (t:=(decide ((ii:Int)<(i:Nat))) && (!x)) (λb2=>?_) (λb2=>?_))
  ·have k3:=(Bool.and_eq_true_iff.1 b2).1
   have k4:(!x)=true:=(Bool.and_eq_true_iff.1 b2).2
   have hsp:x=false:=by have:=(Bool.and_eq_true_iff.1 b2).2;simpa using this
   have f6:0<i-ii:=by have:=of_decide_eq_true (Bool.and_eq_true_iff.1 b2).1;omega
   refine En (Lk (Lt (Ls (Lb (Ls (Lg [1] (Lw (dE (f:=69) (args:=#[zP o 0]) Tryz.call69 (sv Q b0 x (λw h=>hQ w (h.drop 5)) hp.2.2.1 (f5.pl 3)) ?_))))))))
   rintro s3 s4 ⟨c3,d6,d7,s5,s6,rfl,f7,s7,d8,k6⟩
   refine BS (dW 2 (c3:Nat) Hz) (En (Lt (Ls (Lg [2,3,7,8] (Lw (dE (f:=68) (args:=#[zP o 0,.int .i64 (c3:Nat)]) Tryz.call68 (pb Q d6 d7 c3 (λw h=>hQ w (h.drop 5)) d8 k6) ?_))))))
   rintro s8 s9 ⟨d9,e0,b3,e1,e2,e3,e4,rfl,c8,k7,f8⟩
   have k8:∀ z∈b3,0<=z/\z<256:=by have a:=lW (n:=c3) (s:=(d6,d7)) d8.nV;rw [c8] at a;exact a
   have k9:b3.length<=1000000:=by have a:=vH (n:=c3) (s:=(d6,d7)) (m:=1000000) d8.len;rw [c8] at a;exact a
   refine Lo (Dz (dE (f:=70) (args:=#[.slice d9 b3.length e0]) Tryz.call70 (Gj (Sl d9 e0 5 1 aA b3) b3 (λw h=>h.at_ 0 rfl) (bG.new f8 (j:=0) rfl k8 k9) f8) ?_))
   rintro t0 t1 ⟨u,c4,rfl,e5,l1,l2⟩
   refine Lo (Lw (eN (aD.cells aJ) l2 λl3 t2 l4=>Lo (Dz (Zu 0 0 (aD.cells u) l4 λt3 c9=>Lz (Ls (Lq (Dz (cZ (t:=(c4:Int) != 0) (λb5=>?_) (λb5=>?_)))))))))
   ·refine En (Ls (Lg [2] (Lw (Zu 8 0 (aX.cells dV) c9 λt4 f9=>Lz (Le (Ly (Ll (Ly (sT (Ll (Ly (Dz (mZ 8 (.int .i64 c4) f9 ?_)))))))))))))
    have l6:=St.bJ f9 5 1 aA
    have l7:=St.bJ l6 51 121 aD.cells
    have l8:=St.fD l7
    have l9:=(((((((((((l8.pl 0).pl 1).pl 2).pl 11).pl 11).pl 11).pl 11).pl 11).pl 11).pl 11).pl 11).pl 11
    exact⟨dV,c4,rfl,(by rw [GH e5 (by simpa using b5)];exact Cy a6 a7 za a4 a8 (hp.2.1.trans (Fs f6 hsp (Ft f7 c8 e5 (by simpa using b5))))),zf,(λm hm=>by cases hm),(λz hz=>by cases hz),l9.dr 9⟩
   ·refine Zk (Zt (bX [3,4,6] (Hl 1 6 2 c9 (fE 2 0 0 121 (aD.cells u) c9 Hz)) (aU.cT rfl zk (t:=24) (e:=51) (n:=1) (ps:=[(0,.agg (aD.cells u))]) zk zk (ti:=Tryz.t51) (z:=.agg (aD.cells aJ)) zk zk zf zf (cs:=aD.cells u) zk c9 λm1 m2 m3 m4=>?_)))
    have m5:St w0 (Sl (some ⟨m1,0,none⟩) 1 51 121 aD.cells ([(u:aD)])::aC l3 (aD.cells u) 51::Sl u.bd.qa u.bd.qc 190 2 bS.cells u.bd.ql::Sl d9 e0 5 1 aA b3::aC o #[.slice e3 e1.length e4,.bool e2] 115::Sl c1 c2 51 121 aD.cells a2::QS a2::aC a3 (aX.cells (⟨a5,a0,a1,q,c1,c2,a2⟩:aX)) 35::Sl a0 a1 5 1 aA q::aC b1 (aX.cells dV) 35::L) m2:=St.lS (l:=[(u:aD)]) (f:=aD.cells) m3 m4 dJ.size zl zk
    refine Lo (Dz (oV eH dJ aJ (m5.pl 5) zj λd0 d1 t5 m7=>Lo (Lw (Zu 7 2 (aX.cells (⟨a5,a0,a1,q,d0,d1,(a2++([(u:aD)]))⟩:aX)) m7 λm8 m9=>Lo (Ld (Lm (Lt (Dz (cS (dW 1 ((ii:Nat)+1) Hz) ?_)))))))))
    have n0:=(((((((((m9.pl 9).pl 9).pl 7).pl 9).pl 4).pl 9).pl 8).pl 9).pl 9).pl 9
    have n1:=n0.dr 3
    have n2:St w0 (QS (a2++[u])::Sl d0 d1 51 121 aD.cells (a2++([(u:aD)]))::aC a3 (aX.cells (⟨a5,a0,a1,q,d0,d1,(a2++([(u:aD)]))⟩:aX)) 35::aC o #[.slice e3 e1.length e4,.bool e2] 115::Sl a0 a1 5 1 aA q::aC b1 (aX.cells dV) 35::L) m8:=by rw [IU];exact St.join n1
    exact aN.back (ii+1,e1,e2,e3,e4,d0,d1,(a2++[u])) [0,2,4,5,7,8] zk (by show i-(ii+1)<i-ii;omega) ⟨⟨za,by rw [hp.2.1,wW f6 hsp (A5 f7 c8 e5 (by simpa using b5)),List.map_append,Nat.sub_sub];rfl,k7,λm hm=>(List.mem_append.1 hm).elim (hp.2.2.2.1 m) (λa=>by rw [List.mem_singleton.1 a];exact l1),by show(a2++[_]).length<=ii+1;have:=hp.2.2.2.2;simp only [List.length_append,List.length_cons,List.length_nil];omega⟩,(((((n2.pl 5).pl 5).pl 5).pl 5).pl 4).pl 5⟩
  ·have hend:i-ii=0\/x=true:=by
    cases x with
    | true=>exact .inr rfl
    | false=>exact .inl (by have a:=b2;simp only [Bool.not_false,Bool.and_true,decide_eq_false_iff_not] at a;omega)
   refine Zx (aN.cJ (aN.fJ (aN.iT (Zt (Zs (Zs (ZD (eR [0,1,2,3,4,5,6,7,8,9,10,11,12,13,16,17] (.ef 14 (eR [15,18,19] .done))) f5 λn4 e6 t6=>gS 0 5 (Hl 3 3 1 e6 Hz) (dB 67 x (λd2=>?_) (λd2=>?_)))))))))
   ·refine En (Lw (gH (En (bO (Lt (LT (Ls (Lg [1] (Lw (Zu 5 0 (aX.cells dV) e6 λt7 g0=>Lz (Le (Ly (Dz (mZ 5 (.int .i64 5) g0 ?_))))))))))))))
    have n5:=St.bJ g0 5 1 aA
    have n6:=St.bJ n5 51 121 aD.cells
    have n7:=St.fD n6
    have n8:=((((((((n7.pl 0).pl 1).pl 2).pl 8).pl 8).pl 8).pl 8).pl 8).pl 8
    exact⟨dV,5,rfl,rI a6 a7 za a4 a8 (hp.2.1.trans (nE hend)) (.inl (by simpa using d2)),zf,(λm hm=>by cases hm),(λz hz=>by cases hz),n8.dr 6⟩
   ·obtain⟨xx,hxx⟩:∃ s:aX,s=(⟨a5,a0,a1,q,c1,c2,a2⟩:aX):=⟨_,rfl⟩
    have b6:St w0 (Sl xx.ma xx.mc 51 121 aD.cells xx.ml::QS xx.ml::aC a3 (aX.cells xx) 35::aC o #[.slice f3 b0.length f4,.bool x] 115::Sl xx.sa xx.sc 5 1 aA xx.sl::aC b1 (aX.cells dV) 35::L) n4:=(by rw [hxx];exact e6)
    have hxm:∀ m∈xx.ml,dw m:=by rw [hxx];exact hp.2.2.2.1
    have hxl:xx.sl.length<=100000/\xx.ml.length<=65535/\0<=xx.ct/\xx.ct<=18446744073709551615:=by
     rw [hxx]
     have h6:=lV a8
     have h8:=hp.2.2.2.2
     have a:=wq zn (b9,c0)
     rw [a4] at a
     have h7:=cC a6
     simp only [] at a h8 ⊢
     omega
    have hxb:∀ z∈xx.sl,0<=z/\z<256:=by
     rw [hxx]
     have a:=lW (n:=zn) (s:=(b9,c0)) c6.nV
     rw [a4] at a
     exact a
    refine gS 5 8 (Hl 8 3 0 b6 Hz) (dB 75 (decide ((b0.length:Int)>0)) (λd3=>?_) (λd3=>?_))
    ·have o0:=of_decide_eq_true d3
     refine En (Lw (gH (En (bO (Lt (LT (Ls (Lg [1] (Lw (Zu 5 0 (aX.cells dV) b6 λt8 g5=>Lz (Le (Ly (Dz (mZ 5 (.int .i64 5) g5 ?_))))))))))))))
     have o1:=St.bJ g5 5 1 aA
     have o2:=St.bJ o1 51 121 aD.cells
     have o3:=St.fD o2
     have o4:=((((((((o3.pl 0).pl 1).pl 2).pl 8).pl 8).pl 8).pl 8).pl 8).pl 8
     exact⟨dV,5,rfl,(rI a6 a7 za a4 a8 (hp.2.1.trans (nE hend)) (.inr (λh7=>by
      have h6:dO xx=b:=by rw [hxx];exact(nY _ _ _ _ _ _ _).symm.trans h7
      have h8:=MW a6 a7 a4 a8 ((hp.2.1.trans (nE hend)).trans (by rw [show x=false by simpa using d2])) hp.2.2.2.1 ((nY _ _ _ _ _ _ _).symm.trans h7)
      exact absurd (of_decide_eq_true d3) (by rw [h8];simp)))),zf,(λm hm=>by cases hm),(λz hz=>by cases hz),o4.dr 6⟩
    ·refine Zh [(13,.agg (aX.cells xx)),(16,.gen [])] [(13,[.prop (Array.size (aX.cells xx)=3),.cells ⟨a3,0,none⟩ (aX.cells xx)])] (ak (aL zk (eM (b6.cells 2 0 rfl zk) aO)) gQ) (aU.fT rfl zk (src:=25) (dst:=9) (e:=5) (ad:=ad) (n:=b.length) (cap:=cb) (f:=aA) rfl b rfl zk zk zk zk hq.nV (hq.row _ (hQ _ (b6.drop 6))) ?_)
     refine Zc (wV xx za (λk hk=>⟨hxm _ (bC (d:=aJ) hk),λw h=>rH (h.at_ 1 rfl) hk⟩) (b6.dI 4 rfl) za (λw h=>h.rows 0 rfl dJ.size _) (λw h=>h.rows 4 rfl aF.size _) b6) ?_
     rintro t9 u0 ⟨o6,o7,rfl,c5⟩
     refine⟨fM (n:=[.holds (λw=>aB w ad b.length 1 (λk=>aA (b.getD k 0)))]) zk (JM (hq.row _ (hQ _ (c5.drop 7))) aO),aU.fT rfl zk (src:=25) (dst:=9) (e:=5) (ad:=o6) (n:=(dO xx).length) (cap:=o7) (f:=aA) rfl (dO xx) rfl zk zk zk zk (mT hxb hxm) (c5.rows 0 rfl aF.size (0:Int)) (lD (Hg 18 (.eJ (.bool (!(decide ((strOf (dO xx))=(strOf b))))) (.gen [])) [.prop (Value.bool (!((strOf (dO xx)).toList == (strOf b).toList))=Value.bool (!(decide ((strOf (dO xx))=(strOf b)))))] (aL (LY _ _) aO) Hz) (Zt (cZ (t:=!(decide ((strOf (dO xx))=(strOf b)))) (λb7=>?_) (λb7=>?_))))⟩
     ·have e7:=jV b7
      refine En (Ls (Lg [1] (Lw (Zu 6 0 (aX.cells dV) c5 λu1 g7=>Lz (Le (Ly (Dz (mZ 6 (.int .i64 5) g7 ?_))))))))
      have o8:=St.bJ g7 5 1 aA
      have o9:=St.bJ o8 51 121 aD.cells
      have p0:=St.fD o9
      have p1:=(((((((((p0.pl 0).pl 1).pl 2).pl 9).pl 9).pl 9).pl 9).pl 9).pl 9).pl 9
      have p2:=p1.dr 7
      exact⟨dV,5,rfl,(rI a6 a7 za a4 a8 (hp.2.1.trans (nE hend)) (.inr (λh7=>by
       have h6:dO xx=b:=by rw [hxx];exact(nY _ _ _ _ _ _ _).symm.trans h7
       rw [h6] at b7
       simp at b7))),zf,(λm hm=>by cases hm),(λz hz=>by cases hz),p2⟩
     ·have e7:=jN b7
      refine Zk (Zt (Zs (bX [1] (fE 0 3 0 3 (aX.cells xx) c5 Hz) (Zu 6 0 (aX.cells xx) c5 λu2 g8=>Lz (Le (Dz (mZ 6 (.int .i64 0) g8 ?_)))))))
      have hpb:dO xx=b:=ub (mT hxb hxm) hq.nV (by simpa using b7)
      have p3:=((((((g8.pl 2).pl 2).pl 5).pl 6).pl 6).pl 6).pl 6
      exact⟨xx,0,rfl,(by rw [hxx];exact wX a6 a7 za a4 a8 (hp.2.1.trans (nE hend)) (λh6=>h6.elim (λh7=>Bool.noConfusion (h7.symm.trans (show x=false by simpa using d2))) (λh7=>h7 ((nY _ _ _ _ _ _ _).trans (hxx▸hpb))))),za,hxm,hxb,p3.dr 4⟩
end
section
variable {w0 w : World} {L : List cA} {c : Nat} {az : Option Addr} {cz : Nat}
def dR (s:CS):ByteArray×CS:=if ((aW s).2.1.length:Int)<(aW s).1 then (⟨#[]⟩,((aW s).2.1,true)) else (strOf (tk (aW s).1.toNat (aW s).2).1,(tk (aW s).1.toNat (aW s).2).2)
theorem yW {s:CS}{n:Int}{r:List Int}{p:Bool}(h:aW s=(n,(r,p))) (hn:(r.length:Int)<n):dR s=(⟨#[]⟩,(r,true)):=by
 unfold dR
 rw [h]
 exact if_pos hn
theorem Cz {s s2:CS}{n:Nat}{r l:List Int}{p:Bool}(h:aW s=((n:Int),(r,p))) (hn:n<=r.length) (h2:tk n (r,p)=(l,s2)):dR s=(strOf l,s2):=by
 unfold dR
 rw [h,if_neg (by show ¬ (r.length:Int)<(n:Int);omega)]
 simp only [Int.toNat_natCast,h2]
theorem Ks {s:CS}{n:Int}{r:List Int}(h:aW s=(n,(r,true))):dR s=(⟨#[]⟩,(r,true)):=by
 have a:=cC h
 unfold dR
 rw [h]
 split
 ·rfl
 ·simp only []
  rw [show tk n.toNat (r,true)=([],(r,true)) from if_pos (.inl rfl)]
  rfl
theorem Eb Q r sp (hQ:∀ w,St w0 L w->Q.holds w) (hq:bG Q az r cz) (hs:St w0 (aC c #[.slice az r.length cz,.bool sp] 173::L) w):Cs Tryz.prog 114 #[zP c 0,.int .i64 (-1)] w λrv w'=>rv=.slice none 0 0/\St w0 (aC c #[.slice az r.length cz,.bool true] 173::L) w':=by
 refine cL Tryz.func114 Tryz.ntmps114 (En (Lq (Ls (Lq (LF (Lk (Lt (Ls (Ls (Lg [20] (Dz (gS 0 6 (Hl 4 0 1 hs Hz) (dB 13 sp (λd=>?_) (λd=>?_))))))))))))))
 ·exact En (Lw (Zu 0 1 #[.slice az r.length cz,.bool true] hs λe a=>Lo (Ld (Lt (Ls (Dz (cS (Hl 3 0 1 a Hz) (En (Lt (LT (Lq (Le (Ly (Dz (bL (v:=.slice none 0 0) ⟨rfl,a⟩)))))))))))))))
 ·exact En (Lw (Zu 0 1 #[.slice az r.length cz,.bool true] hs λf b=>Lo (Ld (Lt (Ls (Dz (cS (Hl 3 0 1 b Hz) (En (Lt (LT (Lq (Le (Ly (Dz (bL (v:=.slice none 0 0) ⟨rfl,b⟩)))))))))))))))
theorem GI Q r sp (hQ:∀ w,St w0 L w->Q.holds w) (hq:bG Q az r cz) (hs:St w0 (aC c #[.slice az r.length cz,.bool sp] 173::L) w):Cs Tryz.prog 62 #[zP c 0,.int .i64 (-1)] w λrv w'=>rv=.slice none 0 0/\St w0 (aC c #[.slice az r.length cz,.bool true] 173::L) w':=by
 refine cL Tryz.func62 Tryz.ntmps62 (En (Lq (Ls (Lg [2,3] (Lw (eE (Eb Q r sp (λw h=>hQ w (h.drop 0)) hq hs) λe a=>Lo (Dz (dE (f:=113) (args:=#[.slice none 0 0]) Tryz.call113 (ov a) ?_))))))))
 rintro i o ⟨rfl,b⟩
 exact Lz (Le (Dz (bL (v:=.slice none 0 0) ⟨rfl,b⟩)))
theorem sD Q r sp (hQ:∀ w,St w0 L w->Q.holds w) (hq:bG Q az r cz) (hs:St w0 (aC c #[.slice az r.length cz,.bool sp] 173::L) w):Cs Tryz.prog 101 #[zP c 0] w λrv w'=>∃ ss2 rr2 sp2 az2 cz2,rv=.string ss2/\dR (r,sp)=(ss2,(rr2,sp2))/\bG Q az2 rr2 cz2/\St w0 (aC c #[.slice az2 rr2.length cz2,.bool sp2] 173::L) w':=by
 refine cL Tryz.func101 Tryz.ntmps101 (En (Lq (Ls (Lg [1] (Lw (dE (f:=61) (args:=#[zP c 0]) Tryz.call61 (bT Q r sp (λw h=>hQ w (h.drop 0)) hq hs) ?_))))))
 rintro b3 b4 ⟨a,rr2,d,a0,a1,rfl,o,b5,b,a2⟩
 refine Lz (Ls (Ls (Dz ?_)))
 have b6:=b.len
 refine En (Lg [2] (Lw (dE (f:=102) (args:=#[zP c 0]) Tryz.call102 (pK rr2 d a2) ?_)))
 rintro b7 b8 ⟨rfl,q⟩
 refine BS (tP 3 (rr2.length:Nat) Hz) (Zt (Zi ((a:Int)>(rr2.length:Nat)) (λa3=>?_) (λa3=>?_)))
 ·exact En (Ls (Lg [1] (Lw (eE (GI Q rr2 d (λw h=>hQ w (h.drop 0)) b q) λc0 a4=>Lo (Ld (Lt (Lq (Le (Ly (Dz (bL (v:=.string aR) ⟨⟨#[]⟩,rr2,true,a0,a1,rfl,yW o za,b,a4⟩)))))))))))
 ·refine Zn [(10,.bool (decide ((a:Int)>(rr2.length:Nat)))),(3,.int .u64 a),(2,.string aR),(0,zP c 0)] ?_
  obtain⟨zn,hzn⟩:∃ n:Nat,a=n:=⟨a.toNat,za⟩
  subst hzn
  refine Zk (Zt (Zs (bX [3] (dW 2 (zn:Nat) Hz) (dE (f:=62) (args:=#[zP c 0,.int .i64 (zn:Nat)]) Tryz.call62 (mO Q rr2 d zn (λw h=>hQ w (h.drop 0)) b q) ?_))))
  rintro c1 c2 ⟨a5,a6,i,a7,a8,a9,b0,rfl,u,b1,x⟩
  exact Lo (Dz (aU.fT rfl zk (src:=25) (dst:=9) (e:=5) (ad:=a5) (n:=i.length) (cap:=a6) (f:=aA) rfl i rfl zk zk zk zk (by have z:=lW (n:=zn) (s:=(rr2,d)) b.nV;rw [u] at z;exact z) (x.rows 0 rfl aF.size (0:Int)) (En (bO (Lt (Le (Dz (bL (v:=.string (strOf i)) ⟨strOf i,a7,a8,a9,b0,rfl,Cz o za u,b1,x.dr 1⟩))))))))
end
section
variable {w0 w : World} {L : List cA} {c : Nat} {az : Option Addr} {cz : Nat}
theorem nZ Q r sp (hQ:∀ w,St w0 L w->Q.holds w) (hq:bG Q az r cz) (hs:St w0 (aC c #[.slice az r.length cz,.bool sp] 164::L) w):Cs Tryz.prog 106 #[zP c 0] w λrv w'=>∃ vv2 rr2 sp2 az2 cz2,rv=.int .u64 vv2/\aW (r,sp)=(vv2,(rr2,sp2))/\(0<=vv2/\vv2<18446744073709551616)/\bG Q az2 rr2 cz2/\St w0 (aC c #[.slice az2 rr2.length cz2,.bool sp2] 164::L) w':=by
 refine cL Tryz.func106 Tryz.ntmps106 (Zs ?_)
 have hrl:=hq.len
 have hcap:=hq.cap
 refine Za (Zt (Zs (Zs (bH.join (T:=Unit) (E:=λ_=>[(16,.bool (sp || (decide ((r.length:Int)<8)))),(2,.int .u64 0),(0,zP c 0)]) (F:=λ_ w=>St w0 (aC c #[.slice az r.length cz,.bool sp] 164::L) w) ?_ ?_))))
 ·refine Zg [] (gS 0 5 (Hl 3 0 1 hs Hz) (dB 9 sp (λe=>?_) (λe=>?_)))
  ·exact En (bO (Dz (gB [16,2,0] () true (by first|rfl|simp [Hb,e]) hs)))
  ·exact lD (Hl 8 0 0 hs Hz) (gB [16,2,0] () (decide ((r.length:Int)<8)) (by first|rfl|simp [Hb,e]) hs)
 intro _ w2 i
 refine Zt (cZ (t:=sp || (decide ((r.length:Int)<8))) (λd=>?_) (λd=>?_))
 ·have hbad:sp=true\/r.length<8:=by
   rcases Bool.or_eq_true_iff.1 d with f|f
   ·exact .inl f
   ·have:=of_decide_eq_true f;exact .inr za
  exact En (Ls (Lg [3] (Lw (Zu 0 1 #[.slice az r.length cz,.bool true] i λw5 x=>Lo (Ld (Lt (Lq (Le (Ly (Dz (bL (v:=.int .u64 0) ⟨0,r,true,az,cz,rfl,(show(fR (tk 8 (r,sp)).1,(tk 8 (r,sp)).2)=_ by rw [sr hbad];rfl),cC (s:=(r,sp)) (show(fR (tk 8 (r,sp)).1,(tk 8 (r,sp)).2)=_ by rw [sr hbad];rfl),hq,x⟩)))))))))))
 ·have a0:(decide ((r.length:Int)<8))=false:=(Bool.or_eq_false_iff.1 d).2
  have hbf:=Bool.or_eq_false_iff.1 d
  have hsf:sp=false:=hbf.1
  have hnr:8<=r.length:=by have:=of_decide_eq_false hbf.2;omega
  refine En (Lk (Lt (Lq (Ls (Lq (Lb (Dz (bH.loop (T:=Nat×Int) (λgg=>[(0,zP c 0),(2,.int .u64 0),(3,.int .u64 gg.2),(4,.int .i64 (gg.1:Nat))]) (λgg w=>(gg.1<=8/\gg.2=fR (r.take gg.1))/\St w0 (aC c #[.slice az r.length cz,.bool sp] 164::L) w) (λgg=>8-gg.1) (0,0) [0,2,3,4] zk ⟨⟨Nat.zero_le _,rfl⟩,i⟩ ?_))))))))
  rintro⟨jj,z⟩ w7 ⟨hp,b⟩
  dsimp only at hp b
  have hw:∀ w,St w0 L w->aB w az r.length 1 (λk=>aA (r.getD k 0)):=λw h=>hq.row w (hQ w h)
  refine En (Ls (Lq (Dz (Zi ((jj:Int)<8) (λa1=>?_) (λa1=>?_)))))
  ·have hjn:jj<r.length:=za
   obtain⟨o,q,rfl⟩:=aB.isSome (hw _ (b.drop 1)) za
   exact Zk (Zt (Zs (Zb (cS (Hg 1 (.shift (dY .u64 z 8)) [.prop ((0:Int)<=8/\IntKind.u64.wrap (z*2 ^ (min (Int.toNat 8) (IntKind.bits .u64)))=dY .u64 z 8)] (aL ⟨(by first|omega|exact bW rfl _),rfl⟩ aO) (Hl 5 0 0 b (Hx 7 (jj:Int) (r.length:Int) o q 1 (Hg 8 (.gen [.int .u8 (r.getD jj 0)]) [.cell ⟨o,q+(jj*1),none⟩ (.int .u8 (r.getD jj 0))] (bP (aB.dX (hw _ (b.drop 1)) (k:=jj) zo (j:=0) zf zk) aO) Hz)))) (Zm (Zt (cS (dW 1 ((jj:Nat)+1) Hz) (aN.back (jj+1,mL .u64 (dY .u64 z 8) (IntKind.u64.wrap (r.getD jj 0))) [0,2,3,4] zk (by show 8-(jj+1)<8-jj;omega) ⟨⟨za,by rw [ru za,<- hp.2]⟩,b⟩))))))))
  ·have hke:jj=8:=za
   refine Zx (aN.cJ (aN.fJ (aN.iT (Zt (Zs (bX [8] (Hl 4 0 0 b (Hg 5 (.eJ (.slice (eA az cz 8 1) ((r.drop 8).length) (cz-8)) (.sub 8 r.length)) [.prop ((8:Int)=((8:Nat):Int)),.prop ((some (Operand.const (.int .i64 8))=none->(8:Nat)=0)/\((none:Option Operand)=none->(r.length:Nat)=r.length)/\(8:Nat)<=r.length/\(r.length:Nat)<=cz),.prop (Value.slice (if cz=8 then az else (az:Option Addr).map (λa=>a.add (8*1))) (r.length-8) (cz-8)=Value.slice (eA az cz 8 1) ((r.drop 8).length) (cz-8))] (aL za (aL ⟨(by first|(intro _;rfl)|(intro hc;cases hc)),(by first|(intro _;rfl)|(intro hc;cases hc)),za,za⟩ (aL (rT zw) aO))) Hz)) (Zu 0 0 #[.slice (eA az cz 8 1) ((r.drop 8).length) (cz-8),.bool sp] b λa4 u=>Lo (Ld (Lt (Lq (Le (Dz (bL (v:=.int .u64 z) ?_)))))))))))))
   rw [hsf] at u
   exact⟨fR (r.take 8),r.drop 8,false,eA az cz 8 1,(cz-8),(by rw [hp.2,hke]),(show(fR (tk 8 (r,sp)).1,(tk 8 (r,sp)).2)=_ by rw [qf hsf za]),cC (s:=(r,sp)) (show(fR (tk 8 (r,sp)).1,(tk 8 (r,sp)).2)=_ by rw [qf hsf za]),hq.drop za,u⟩
theorem qP Q r sp (hQ:∀ w,St w0 L w->Q.holds w) (hq:bG Q az r cz) (hs:St w0 (aC c #[.slice az r.length cz,.bool sp] 164::L) w):Cs Tryz.prog 107 #[zP c 0] w λrv w'=>∃ ss2 rr2 sp2 az2 cz2,rv=.string ss2/\dR (r,sp)=(ss2,(rr2,sp2))/\bG Q az2 rr2 cz2/\St w0 (aC c #[.slice az2 rr2.length cz2,.bool sp2] 164::L) w':=by
 refine cL Tryz.func107 Tryz.ntmps107 (En (Lq (Ls (Lg [1] (Lw (Zc (nZ Q r sp (λw h=>hQ w (h.drop 0)) hq hs) ?_))))))
 rintro a7 a8 ⟨i,rr2,o,d,b,rfl,a2,a9,u,a1⟩
 refine Lz (Ls (Ls (Dz (bH.join (T:=Unit) (E:=λ_=>[(20,.bool (o || (decide ((i:Int)>(rr2.length:Nat))))),(3,.int .u64 i),(2,.string aR),(0,zP c 0)]) (F:=λ_ w=>St w0 (aC c #[.slice d rr2.length b,.bool o] 164::L) w) ?_ ?_))))
 ·refine Zg [] (gS 0 5 (Hl 3 0 1 a1 Hz) (dB 11 o (λa3=>?_) (λa3=>?_)))
  ·exact En (bO (Dz (gB [20,3,2,0] () true (by first|rfl|simp [Hb,a3]) a1)))
  ·have b0:=u.len
   exact lD (Hl 9 0 0 a1 (tP 11 (rr2.length:Nat) Hz)) (gB [20,3,2,0] () (decide ((i:Int)>(rr2.length:Nat))) (by first|rfl|simp [Hb,a3]) a1)
 intro _ b1 x
 refine Zt (cZ (t:=o || (decide ((i:Int)>(rr2.length:Nat)))) (λa0=>?_) (λa0=>?_))
 ·have hbad:o=true\/(rr2.length:Int)<i:=by
   rcases Bool.or_eq_true_iff.1 a0 with q|q
   ·exact .inl q
   ·have:=of_decide_eq_true q;exact .inr za
  exact En (Ls (Lg [3] (Lw (Zu 0 1 #[.slice d rr2.length b,.bool true] x λb2 a5=>Lo (Ld (Lt (Lq (Le (Ly (Dz (bL (v:=.string aR) ⟨⟨#[]⟩,rr2,true,d,b,rfl,hbad.elim (λq=>Ks (q▸a2)) (λq=>yW a2 q),u,a5⟩)))))))))))
 ·have a6:(decide ((i:Int)>(rr2.length:Nat)))=false:=(Bool.or_eq_false_iff.1 a0).2
  have hbf:=Bool.or_eq_false_iff.1 a0
  have hsf:o=false:=hbf.1
  have hnr:i<=(rr2.length:Int):=by have:=of_decide_eq_false hbf.2;omega
  refine Zn [(20,.bool (o || (decide ((i:Int)>(rr2.length:Nat))))),(3,.int .u64 i),(2,.string aR),(0,zP c 0)] ?_
  obtain⟨zn,hzn⟩:∃ n:Nat,i=n:=⟨i.toNat,za⟩
  subst hzn
  have hcap:=u.cap
  refine En (Lk (Lt (Ls (Lg [] (Dz (Zp 0 6 [(3,.gen [.slice d rr2.length b]),(5,.eJ (.slice d ((rr2.take zn).length) b) (.sub 0 zn))] [(3,[.cell ⟨c,0,none⟩ (.slice d rr2.length b)]),(5,[.prop ((zn:Int)=(zn:Int)),.prop (((none:Option Operand)=none->(0:Nat)=0)/\(some (Operand.tmp 28)=none->(zn:Nat)=rr2.length)/\(0:Nat)<=zn/\(zn:Nat)<=b),.prop (Value.slice (if b=0 then d else (d:Option Addr).map (λa=>a.add (0*1))) (zn-0) (b-0)=Value.slice d ((rr2.take zn).length) b)])] (ak (bP (x.cell 0 rfl zk) aO) (ak (aL za (aL ⟨(by first|(intro _;rfl)|(intro hc;cases hc)),(by first|(intro _;rfl)|(intro hc;cases hc)),za,za⟩ (aL (so zw) aO))) gQ)) (aU.fT rfl zk (src:=25) (dst:=9) (e:=5) (ad:=d) (n:=(rr2.take zn).length) (cap:=b) (f:=aA) rfl (rr2.take zn) rfl zk zk zk zk (λz hz=>u.nV z (List.mem_of_mem_take hz)) (aB.tc (u.row _ (hQ _ (x.drop 1))) _ za) (En (bO (Lt (Ls (Dz (bX [9] (Hl 4 0 0 x (Hg 6 (.eJ (.slice (eA d b zn 1) ((rr2.drop zn).length) (b-zn)) (.sub zn rr2.length)) [.prop ((zn:Int)=(zn:Int)),.prop ((some (Operand.tmp 36)=none->(zn:Nat)=0)/\((none:Option Operand)=none->(rr2.length:Nat)=rr2.length)/\(zn:Nat)<=rr2.length/\(rr2.length:Nat)<=b),.prop (Value.slice (if b=zn then d else (d:Option Addr).map (λa=>a.add (zn*1))) (rr2.length-zn) (b-zn)=Value.slice (eA d b zn 1) ((rr2.drop zn).length) (b-zn))] (aL za (aL ⟨(by first|(intro _;rfl)|(intro hc;cases hc)),(by first|(intro _;rfl)|(intro hc;cases hc)),za,za⟩ (aL (rT zw) aO))) Hz)) (Zu 0 0 #[.slice (eA d b zn 1) ((rr2.drop zn).length) (b-zn),.bool o] x λb5 a4=>Lo (Ld (Lt (Lq (Le (Dz (bL (v:=.string (strOf (rr2.take zn))) ?_))))))))))))))))))))
  rw [hsf] at a4
  exact⟨strOf (rr2.take zn),rr2.drop zn,false,eA d b zn 1,(b-zn),rfl,Cz (hsf▸a2) za (qf rfl za),u.drop za,a4⟩
end
section
variable {w0 w : World} {L : List cA}
structure cB where
 kind:Int
 key:ByteArray
 value:ByteArray
 jK:ByteArray
 dest:ByteArray
 aY:Int
deriving DecidableEq
def cB.cells (o:cB):Array Value:=#[.int .u8 o.kind,.string o.key,.string o.value,.string o.jK,.string o.dest,.int .u64 o.aY]
structure bR where
 err:Int
 value:ByteArray
deriving DecidableEq
def bR.cells (o:bR):Array Value:=#[.int .i64 o.err,.string o.value]
structure aH where
 key:ByteArray
 value:ByteArray
deriving DecidableEq
def aH.cells (o:aH):Array Value:=#[.string o.key,.string o.value]
abbrev aT:aH:=⟨⟨#[]⟩,⟨#[]⟩⟩
abbrev mC:cB:=⟨0,⟨#[]⟩,⟨#[]⟩,⟨#[]⟩,⟨#[]⟩,0⟩
theorem gG:gX aH.cells 2:=⟨λ_=>rfl,λ_=>rfl⟩
theorem lM:jZ Tryz.prog 129 132 2 32:=⟨zk,⟨Tryz.t132,.agg #[.string ⟨#[]⟩,.string ⟨#[]⟩],zk,zk,zk,zk,zk⟩,zf⟩
theorem pS:jD Tryz.prog 179 Value.string Value.string 9 9 :=
 jD.now zk ⟨.string,zk,λa b=>by simp only [Instr.sameNow,beq_toListBytes,nT],.inr (.inl rfl)⟩ (λa=>by simp [Instr.sameBits,beq_toListBytes]) (λem a w=>rfl)
theorem tD (a b:Int):(a == b)=decide (a=b):=rfl
theorem rZ (a b:cB):fY Tryz.prog 2 43 (.agg a.cells) (.agg b.cells)=decide (a=b):=by
 have h:fY Tryz.prog 2 43 (.agg a.cells) (.agg b.cells)=(a.kind == b.kind && ((a.key.toList == b.key.toList) && ((a.value.toList == b.value.toList) && ((a.jK.toList == b.jK.toList) && ((a.dest.toList == b.dest.toList) && ((a.aY == b.aY) && true)))))):=zk
 rw [h,nT,nT,nT,nT,tD,tD,Bool.and_true]
 obtain⟨d,e,f,i,o,q⟩:=a
 obtain⟨u,w,x,z,b5,b6⟩:=b
 simp only [cB.mk.injEq,Bool.decide_and]
theorem MX (a b:bR):fY Tryz.prog 2 65 (.agg a.cells) (.agg b.cells)=decide (a=b):=by
 have h:fY Tryz.prog 2 65 (.agg a.cells) (.agg b.cells)=(a.err == b.err && ((a.value.toList == b.value.toList) && true)):=zk
 rw [h,nT,tD,Bool.and_true]
 obtain⟨d,e⟩:=a
 obtain⟨f,i⟩:=b
 simp only [bR.mk.injEq,Bool.decide_and]
def keyed (s:ByteArray):Bool :=
 ((!(decide (s=aR))) && (decide ((s.size:Int)<=32)))
theorem kR s (hs:St w0 L w):Cs Tryz.prog 144 #[.string s] w λrv w'=>rv=.bool (keyed s)/\St w0 L w':=by
 refine cL Tryz.func144 Tryz.ntmps144 (En (Lq (Ls (Dz (bH.join (T:=Unit) (E:=λ_=>[(2,.bool ((!(decide (s=aR))) && (decide ((s.size:Int)<=32))))]) (F:=λ_ w=>St w0 L w) ?_ ?_)))))
 ·refine Zg [] (Zp 0 3 [(1,.eJ (.bool (!(decide (s=aR)))) (.gen []))] [(1,[.prop (Value.bool (!(s.toList == aR.toList))=Value.bool (!(decide (s=aR))))])] (ak (aL (LY _ _) aO) gQ) (dB 5 (!(decide (s=aR))) (λa=>?_) (λa=>?_)))
  ·exact En (bO (Dz (gB [2] () (decide ((s.size:Int)<=32)) (by first|rfl|simp [Hb,a,jV a]) hs)))
  ·exact En (bO (Dz (gB [2] () false (by first|rfl|simp [Hb,a,jN a]) hs)))
 intro _ e d
 refine Zt (Ze (bL (v:=.bool ((!(decide (s=aR))) && (decide ((s.size:Int)<=32)))) ?_))
 have hr:keyed s=((!(decide (s=aR))) && (decide ((s.size:Int)<=32))):=by rw [keyed]
 exact⟨by first|(rw [hr];done)|(rw [hr];rfl),d.drop 0⟩
def dT (s:ByteArray):Bool :=
 (decide ((s.size:Int)<=128))
theorem fQ s (hs:St w0 L w):Cs Tryz.prog 145 #[.string s] w λrv w'=>rv=.bool (dT s)/\St w0 L w':=by
 refine cL Tryz.func145 Tryz.ntmps145 (En (Lq (Lq (Le (Dz (bL (v:=.bool (decide ((s.size:Int)<=128))) ?_))))))
 have hr:dT s=(decide ((s.size:Int)<=128)):=by rw [dT]
 exact⟨by first|(rw [hr];done)|(rw [hr];rfl),hs.drop 0⟩
def failed (e:Int) (v:ByteArray):bR :=
 (⟨e,v⟩:bR)
theorem gZ e v (hs:St w0 L w):Cs Tryz.prog 160 #[.int .i64 e,.string v] w λrv w'=>rv=.agg (bR.cells (failed e v))/\St w0 L w':=by
 refine cL Tryz.func160 Tryz.ntmps160 (En (Ls (Lg [0] (Dz (eN #[.int .i64 0,.string aR] hs λd f b=>Lo (Ld (Lt (Ls (Lg [3] (Lw (Zu 0 0 #[.int .i64 e,.string v] b λi a=>Lo (Ld (Lt (Le (Dz (mJ 0 a ?_))))))))))))))))
 have hr:failed e v=(⟨e,v⟩:bR):=by rw [failed]
 exact⟨by first|(rw [hr];done)|(rw [hr];rfl),a.drop 1⟩
def may (o:cB):Bool :=
 if ((o.kind:Int) == 1)=true then
  if (decide (o=(⟨o.kind,o.key,aR,aR,aR,0⟩:cB)))=true then
   if (keyed o.key)=true then
    if (dT o.value)=true then
     (dT o.jK)
    else
     false
   else
    false
  else
   false
 else
  if ((o.kind:Int) == 3)=true then
   if (decide (o=(⟨o.kind,o.key,aR,aR,aR,0⟩:cB)))=true then
    if (keyed o.key)=true then
     if (dT o.value)=true then
      (dT o.jK)
     else
      false
    else
     false
   else
    false
  else
   if ((o.kind:Int) == 4)=true then
    if (decide (o=(⟨o.kind,o.key,o.value,o.jK,aR,0⟩:cB)))=true then
     if (keyed o.key)=true then
      if (dT o.value)=true then
       (dT o.jK)
      else
       false
     else
      false
    else
     false
   else
    if ((o.kind:Int) == 2)=true then
     if (decide (o=(⟨o.kind,o.key,o.value,aR,aR,0⟩:cB)))=true then
      if (keyed o.key)=true then
       if (dT o.value)=true then
        (dT o.jK)
       else
        false
      else
       false
     else
      false
    else
     if ((o.kind:Int) == 5)=true then
      if (!(keyed o.dest))=true then
       false
      else
       if (decide (o.dest=o.key))=true then
        false
       else
        if (decide ((o.aY:Int)<1))=true then
         false
        else
         if (decide ((o.aY:Int)>1125899906842624))=true then
          false
         else
          if (decide (o=(⟨o.kind,o.key,aR,aR,o.dest,o.aY⟩:cB)))=true then
           if (keyed o.key)=true then
            if (dT o.value)=true then
             (dT o.jK)
            else
             false
           else
            false
          else
           false
     else
      false
theorem GJ (o:cB) (hs:St w0 L w):Cs Tryz.prog 161 #[.agg (cB.cells o)] w λrv w'=>rv=.bool (may o)/\St w0 L w':=by
 refine cL Tryz.func161 Tryz.ntmps161 (En (Ls (Lg [0] (Dz (hG (cB.cells o) hs λb1 w2 b6=>Lz (Ls (Dz (bX [5,6] (Hl 1 0 0 b6 (Hl 3 0 1 b6 Hz)) (eN Ns b6 λb4 w5 d6=>Lo (Dz (Zu 0 0 #[.int .u8 o.kind,.string o.key,.string aR,.string aR,.string aR,.int .u64 0] d6 λw7 f=>Lo (Ld (Lt (Ls (Ls (Dz (cS (Hl 1 1 0 f Hz) (En (Lt (Lb (Ls (Lb (Ls (Lb (Ls (Lb (Ls (Lb (Ls (Lb (Ls (Ls (Ls (Lq (Dz (cZ (t:=(o.kind:Int) == 1) (λa=>?_) (λa=>?_)))))))))))))))))))))))))))))))))))))
 ·refine Zk (Zt (cZ (t:=(o.kind:Int) == 1) (λ_=>Zx (aN.cJ (aN.cJ (aN.iT (Zt (Zx (aN.nA zf (aN.cJ (aN.nA zf (aN.cJ (aN.nA zf (aN.cJ (aN.nA zf (aN.cJ (aN.iT (Zt (Zs (Zg [6,11,16] (Zp 0 2 [(0,.agg (cB.cells o)),(1,.agg #[.int .u8 o.kind,.string o.key,.string aR,.string aR,.string aR,.int .u64 0])] [(0,[.prop (Array.size (cB.cells o)=6),.cells ⟨b1,0,none⟩ (cB.cells o)]),(1,[.prop (Array.size (#[.int .u8 o.kind,.string o.key,.string aR,.string aR,.string aR,.int .u64 0]:Array Value)=6),.cells ⟨b4,0,none⟩ #[.int .u8 o.kind,.string o.key,.string aR,.string aR,.string aR,.int .u64 0]])] (ak (aL zk (eM (f.cells 1 0 rfl zk) aO)) (ak (aL zk (eM (f.cells 0 0 rfl zk) aO)) gQ)) (aU.jO rfl zk (b:=true) (t:=43) (xs:=cB.cells o) (ys:=cB.cells (⟨o.kind,o.key,aR,aR,aR,0⟩:cB)) (m:=2) zk zk zf zk (r:=decide (o=(⟨o.kind,o.key,aR,aR,aR,0⟩:cB))) (lE  (rZ o (⟨o.kind,o.key,aR,aR,aR,0⟩:cB))) (Zr 3 1 [] (dB 56 (decide (o=(⟨o.kind,o.key,aR,aR,aR,0⟩:cB))) (λa1=>?_) (λa1=>?_))))))))))))))))))))))) (λhc=>absurd (a.symm.trans hc) zf)))
  ·refine Zj (Hl 5 1 1 f Hz) (eE (kR o.key  f) λf6 b7=>Lo (Dz (Zr 7 2 [] (dB 61 (keyed o.key) (λa9=>?_) (λa9=>?_)))))
   ·refine Zj (Hl 10 1 2 b7 Hz) (eE (fQ o.value  b7) λf8 b8=>Lo (Dz (Zr 12 2 [] (dB 66 (dT o.value) (λb9=>?_) (λb9=>?_)))))
    ·refine Zj (Hl 15 1 3 b8 Hz) (eE (fQ o.jK  b8) λg0 d9=>Lz (Le (Dz (bL (v:=.bool (dT o.jK)) ?_))))
     have hr:may o=(dT o.jK):=by rw [may,if_pos a,if_pos a1,if_pos a9,if_pos b9]
     exact⟨by first|(rw [hr];done)|(rw [hr];rfl),d9.drop 2⟩
    ·refine En (Lw (gH (En (bO (Lt (Le (Dz (bL (v:=.bool false) ?_))))))))
     have hr:may o=false:=by rw [may,if_pos a,if_pos a1,if_pos a9,nI b9]
     exact⟨by first|(rw [hr];done)|(rw [hr];rfl),b8.drop 2⟩
   ·refine En (Lw (gH (En (Lw (gH (En (bO (Lt (Le (Dz (bL (v:=.bool false) ?_)))))))))))
    have hr:may o=false:=by rw [may,if_pos a,if_pos a1,nI a9]
    exact⟨by first|(rw [hr];done)|(rw [hr];rfl),b7.drop 2⟩
  ·refine En (Lw (gH (En (Lw (gH (En (Lw (gH (En (bO (Lt (Le (Dz (bL (v:=.bool false) ?_))))))))))))))
   have hr:may o=false:=by rw [may,if_pos a,nI a1]
   exact⟨by first|(rw [hr];done)|(rw [hr];rfl),f.drop 2⟩
 ·refine Za (Zt (cZ (t:=(o.kind:Int) == 3) (λd=>?_) (λd=>?_)))
  ·refine Zx (aN.cJ (aN.cJ (aN.iT (Zt (Zx (aN.nA zf (aN.cJ (aN.nA zf (aN.cJ (aN.nA zf (aN.cJ (aN.nA zf (aN.cJ (aN.iT (Zt (Zs (Zg [6,11,16] (Zp 0 2 [(0,.agg (cB.cells o)),(1,.agg #[.int .u8 o.kind,.string o.key,.string aR,.string aR,.string aR,.int .u64 0])] [(0,[.prop (Array.size (cB.cells o)=6),.cells ⟨b1,0,none⟩ (cB.cells o)]),(1,[.prop (Array.size (#[.int .u8 o.kind,.string o.key,.string aR,.string aR,.string aR,.int .u64 0]:Array Value)=6),.cells ⟨b4,0,none⟩ #[.int .u8 o.kind,.string o.key,.string aR,.string aR,.string aR,.int .u64 0]])] (ak (aL zk (eM (f.cells 1 0 rfl zk) aO)) (ak (aL zk (eM (f.cells 0 0 rfl zk) aO)) gQ)) (aU.jO rfl zk (b:=true) (t:=43) (xs:=cB.cells o) (ys:=cB.cells (⟨o.kind,o.key,aR,aR,aR,0⟩:cB)) (m:=2) zk zk zf zk (r:=decide (o=(⟨o.kind,o.key,aR,aR,aR,0⟩:cB))) (lE  (rZ o (⟨o.kind,o.key,aR,aR,aR,0⟩:cB))) (Zr 3 1 [] (dB 56 (decide (o=(⟨o.kind,o.key,aR,aR,aR,0⟩:cB))) (λa2=>?_) (λa2=>?_))))))))))))))))))))))
   ·refine Zj (Hl 5 1 1 f Hz) (eE (kR o.key  f) λg7 c0=>Lo (Dz (Zr 7 2 [] (dB 61 (keyed o.key) (λb0=>?_) (λb0=>?_)))))
    ·refine Zj (Hl 10 1 2 c0 Hz) (eE (fQ o.value  c0) λg9 c1=>Lo (Dz (Zr 12 2 [] (dB 66 (dT o.value) (λc2=>?_) (λc2=>?_)))))
     ·refine Zj (Hl 15 1 3 c1 Hz) (eE (fQ o.jK  c1) λh1 e2=>Lz (Le (Dz (bL (v:=.bool (dT o.jK)) ?_))))
      have hr:may o=(dT o.jK):=by rw [may,nI a,if_pos d,if_pos a2,if_pos b0,if_pos c2]
      exact⟨by first|(rw [hr];done)|(rw [hr];rfl),e2.drop 2⟩
     ·refine En (Lw (gH (En (bO (Lt (Le (Dz (bL (v:=.bool false) ?_))))))))
      have hr:may o=false:=by rw [may,nI a,if_pos d,if_pos a2,if_pos b0,nI c2]
      exact⟨by first|(rw [hr];done)|(rw [hr];rfl),c1.drop 2⟩
    ·refine En (Lw (gH (En (Lw (gH (En (bO (Lt (Le (Dz (bL (v:=.bool false) ?_)))))))))))
     have hr:may o=false:=by rw [may,nI a,if_pos d,if_pos a2,nI b0]
     exact⟨by first|(rw [hr];done)|(rw [hr];rfl),c0.drop 2⟩
   ·refine En (Lw (gH (En (Lw (gH (En (Lw (gH (En (bO (Lt (Le (Dz (bL (v:=.bool false) ?_))))))))))))))
    have hr:may o=false:=by rw [may,nI a,if_pos d,nI a2]
    exact⟨by first|(rw [hr];done)|(rw [hr];rfl),f.drop 2⟩
  ·refine En (Lk (Lt (Ls (Lq (Dz (cZ (t:=(o.kind:Int) == 4) (λe=>?_) (λe=>?_)))))))
   ·refine Zx (aN.cJ (aN.cJ (aN.nA zf (aN.cJ (aN.iT (Zt (bX [3] (Hl 1 1 3 f Hz) (Zu 0 3 #[.int .u8 o.kind,.string o.key,.string aR,.string o.jK,.string aR,.int .u64 0] f λh2 d3=>Lo (Ld (Lm (Lt (Ls (Dz (bX [3] (Hl 1 1 2 d3 Hz) (Zu 0 2 #[.int .u8 o.kind,.string o.key,.string o.value,.string o.jK,.string aR,.int .u64 0] d3 λh3 a7=>Lo (Dz (Zd (Zt (Zx (aN.nA zf (aN.cJ (aN.nA zf (aN.cJ (aN.iT (Zt (Zs (Zg [6,11,16] (Zp 0 2 [(0,.agg (cB.cells o)),(1,.agg #[.int .u8 o.kind,.string o.key,.string o.value,.string o.jK,.string aR,.int .u64 0])] [(0,[.prop (Array.size (cB.cells o)=6),.cells ⟨b1,0,none⟩ (cB.cells o)]),(1,[.prop (Array.size (#[.int .u8 o.kind,.string o.key,.string o.value,.string o.jK,.string aR,.int .u64 0]:Array Value)=6),.cells ⟨b4,0,none⟩ #[.int .u8 o.kind,.string o.key,.string o.value,.string o.jK,.string aR,.int .u64 0]])] (ak (aL zk (eM (a7.cells 1 0 rfl zk) aO)) (ak (aL zk (eM (a7.cells 0 0 rfl zk) aO)) gQ)) (aU.jO rfl zk (b:=true) (t:=43) (xs:=cB.cells o) (ys:=cB.cells (⟨o.kind,o.key,o.value,o.jK,aR,0⟩:cB)) (m:=2) zk zk zf zk (r:=decide (o=(⟨o.kind,o.key,o.value,o.jK,aR,0⟩:cB))) (lE  (rZ o (⟨o.kind,o.key,o.value,o.jK,aR,0⟩:cB))) (Zr 3 1 [] (dB 56 (decide (o=(⟨o.kind,o.key,o.value,o.jK,aR,0⟩:cB))) (λa3=>?_) (λa3=>?_))))))))))))))))))))))))))))))))
    ·refine Zj (Hl 5 1 1 a7 Hz) (eE (kR o.key  a7) λh5 c3=>Lo (Dz (Zr 7 2 [] (dB 61 (keyed o.key) (λb2=>?_) (λb2=>?_)))))
     ·refine Zj (Hl 10 1 2 c3 Hz) (eE (fQ o.value  c3) λh7 c4=>Lo (Dz (Zr 12 2 [] (dB 66 (dT o.value) (λc5=>?_) (λc5=>?_)))))
      ·refine Zj (Hl 15 1 3 c4 Hz) (eE (fQ o.jK  c4) λi0 e5=>Lz (Le (Dz (bL (v:=.bool (dT o.jK)) ?_))))
       have hr:may o=(dT o.jK):=by rw [may,nI a,nI d,if_pos e,if_pos a3,if_pos b2,if_pos c5]
       exact⟨by first|(rw [hr];done)|(rw [hr];rfl),e5.drop 2⟩
      ·refine En (Lw (gH (En (bO (Lt (Le (Dz (bL (v:=.bool false) ?_))))))))
       have hr:may o=false:=by rw [may,nI a,nI d,if_pos e,if_pos a3,if_pos b2,nI c5]
       exact⟨by first|(rw [hr];done)|(rw [hr];rfl),c4.drop 2⟩
     ·refine En (Lw (gH (En (Lw (gH (En (bO (Lt (Le (Dz (bL (v:=.bool false) ?_)))))))))))
      have hr:may o=false:=by rw [may,nI a,nI d,if_pos e,if_pos a3,nI b2]
      exact⟨by first|(rw [hr];done)|(rw [hr];rfl),c3.drop 2⟩
    ·refine En (Lw (gH (En (Lw (gH (En (Lw (gH (En (bO (Lt (Le (Dz (bL (v:=.bool false) ?_))))))))))))))
     have hr:may o=false:=by rw [may,nI a,nI d,if_pos e,nI a3]
     exact⟨by first|(rw [hr];done)|(rw [hr];rfl),a7.drop 2⟩
   ·refine En (Lk (Lt (Ls (Lq (Dz (cZ (t:=(o.kind:Int) == 2) (λi=>?_) (λi=>?_)))))))
    ·refine Zx (aN.cJ (aN.cJ (aN.nA zf (aN.cJ (aN.nA zf (aN.cJ (aN.iT (Zt (Zs (bX [3] (Hl 1 1 2 f Hz) (Zu 0 2 #[.int .u8 o.kind,.string o.key,.string o.value,.string aR,.string aR,.int .u64 0] f λi1 a8=>Lo (Dz (Zd (Zt (Zx (aN.nA zf (aN.cJ (aN.nA zf (aN.cJ (aN.iT (Zt (Zs (Zg [6,11,16] (Zp 0 2 [(0,.agg (cB.cells o)),(1,.agg #[.int .u8 o.kind,.string o.key,.string o.value,.string aR,.string aR,.int .u64 0])] [(0,[.prop (Array.size (cB.cells o)=6),.cells ⟨b1,0,none⟩ (cB.cells o)]),(1,[.prop (Array.size (#[.int .u8 o.kind,.string o.key,.string o.value,.string aR,.string aR,.int .u64 0]:Array Value)=6),.cells ⟨b4,0,none⟩ #[.int .u8 o.kind,.string o.key,.string o.value,.string aR,.string aR,.int .u64 0]])] (ak (aL zk (eM (a8.cells 1 0 rfl zk) aO)) (ak (aL zk (eM (a8.cells 0 0 rfl zk) aO)) gQ)) (aU.jO rfl zk (b:=true) (t:=43) (xs:=cB.cells o) (ys:=cB.cells (⟨o.kind,o.key,o.value,aR,aR,0⟩:cB)) (m:=2) zk zk zf zk (r:=decide (o=(⟨o.kind,o.key,o.value,aR,aR,0⟩:cB))) (lE  (rZ o (⟨o.kind,o.key,o.value,aR,aR,0⟩:cB))) (Zr 3 1 [] (dB 56 (decide (o=(⟨o.kind,o.key,o.value,aR,aR,0⟩:cB))) (λa4=>?_) (λa4=>?_))))))))))))))))))))))))))))
     ·refine Zj (Hl 5 1 1 a8 Hz) (eE (kR o.key  a8) λi3 c6=>Lo (Dz (Zr 7 2 [] (dB 61 (keyed o.key) (λb3=>?_) (λb3=>?_)))))
      ·refine Zj (Hl 10 1 2 c6 Hz) (eE (fQ o.value  c6) λi5 c7=>Lo (Dz (Zr 12 2 [] (dB 66 (dT o.value) (λc8=>?_) (λc8=>?_)))))
       ·refine Zj (Hl 15 1 3 c7 Hz) (eE (fQ o.jK  c7) λi7 e8=>Lz (Le (Dz (bL (v:=.bool (dT o.jK)) ?_))))
        have hr:may o=(dT o.jK):=by rw [may,nI a,nI d,nI e,if_pos i,if_pos a4,if_pos b3,if_pos c8]
        exact⟨by first|(rw [hr];done)|(rw [hr];rfl),e8.drop 2⟩
       ·refine En (Lw (gH (En (bO (Lt (Le (Dz (bL (v:=.bool false) ?_))))))))
        have hr:may o=false:=by rw [may,nI a,nI d,nI e,if_pos i,if_pos a4,if_pos b3,nI c8]
        exact⟨by first|(rw [hr];done)|(rw [hr];rfl),c7.drop 2⟩
      ·refine En (Lw (gH (En (Lw (gH (En (bO (Lt (Le (Dz (bL (v:=.bool false) ?_)))))))))))
       have hr:may o=false:=by rw [may,nI a,nI d,nI e,if_pos i,if_pos a4,nI b3]
       exact⟨by first|(rw [hr];done)|(rw [hr];rfl),c6.drop 2⟩
     ·refine En (Lw (gH (En (Lw (gH (En (Lw (gH (En (bO (Lt (Le (Dz (bL (v:=.bool false) ?_))))))))))))))
      have hr:may o=false:=by rw [may,nI a,nI d,nI e,if_pos i,nI a4]
      exact⟨by first|(rw [hr];done)|(rw [hr];rfl),a8.drop 2⟩
    ·refine En (Lk (Lt (Lq (Dz (cZ (t:=(o.kind:Int) == 5) (λu=>?_) (λu=>?_))))))
     ·refine Zx (aN.cJ (aN.nA zf (aN.cJ (aN.nA zf (aN.cJ (aN.nA zf (aN.cJ (aN.iT (Zt (Zs (Zs (ZD (eR [0,1,2,3,4] (.ef 5 (.rd 6 (.ef 7 .done)))) f λi8 c9 i9=>Zj (Hl 1 1 4 c9 (Hl 3 1 5 c9 Hz)) (Zu 0 4 #[.int .u8 o.kind,.string o.key,.string aR,.string aR,.string o.dest,.int .u64 0] c9 λj0 d4=>⟨fM (n:=[.cell ⟨b1,5,none⟩ (.int .u64 o.aY)]) zk (bP (d4.cell 1 rfl zk) aO),En (Lw (Zu 0 5 #[.int .u8 o.kind,.string o.key,.string aR,.string aR,.string o.dest,.int .u64 o.aY] d4 λj1 d5=>Lo (Ld (Lt (Ls (Dz (bX [2] (Hl 1 1 4 d5 Hz) (eE (kR o.dest  d5) λj3 q=>Lo (Dz (Zr 3 2 [] (dB 36 (!(keyed o.dest)) (λx=>?_) (λx=>?_))))))))))))⟩)))))))))))))
      ·refine En (bO (Lt (LT (Lq (Le (Ly (Ll (Ly (Ll (Ly (Dz (bL (v:=.bool false) ?_))))))))))))
       have hr:may o=false:=by rw [may,nI a,nI d,nI e,nI i,if_pos u,if_pos x]
       exact⟨by first|(rw [hr];done)|(rw [hr];rfl),q.drop 2⟩
      ·refine Zp 5 7 [(6,.gen [.string o.dest]),(8,.gen [.string o.key]),(9,.eJ (.bool (decide (o.dest=o.key))) (.gen []))] [(6,[.cell ⟨b1,4,none⟩ (.string o.dest)]),(8,[.cell ⟨b1,1,none⟩ (.string o.key)]),(9,[.prop (Value.bool (o.dest.toList == o.key.toList)=Value.bool (decide (o.dest=o.key)))])] (ak (bP (q.cell 1 rfl zk) aO) (ak (bP (q.cell 1 rfl zk) aO) (ak (aL (seq _ _) aO) gQ))) (dB 43 (decide (o.dest=o.key)) (λz=>?_) (λz=>?_))
       ·refine En (bO (Lt (LT (Lq (Le (Ly (Ll (Ly (Ll (Ly (Dz (bL (v:=.bool false) ?_))))))))))))
        have hr:may o=false:=by rw [may,nI a,nI d,nI e,nI i,if_pos u,nI x,if_pos z]
        exact⟨by first|(rw [hr];done)|(rw [hr];rfl),q.drop 2⟩
       ·refine gS 12 5 (Hl 13 1 5 q Hz) (dB 48 (decide ((o.aY:Int)<1)) (λa0=>?_) (λa0=>?_))
        ·refine En (bO (Lt (LT (Lq (Le (Ly (Ll (Ly (Ll (Ly (Dz (bL (v:=.bool false) ?_))))))))))))
         have hr:may o=false:=by rw [may,nI a,nI d,nI e,nI i,if_pos u,nI x,nI z,if_pos a0]
         exact⟨by first|(rw [hr];done)|(rw [hr];rfl),q.drop 2⟩
        ·refine lD (Hl 18 1 5 q Hz) (Zt (Zi ((o.aY:Int)>1125899906842624) (λa6=>?_) (λa6=>?_)))
         ·refine En (Lq (Le (Ly (Ll (Ly (Ll (Ly (Dz (bL (v:=.bool false) ?_)))))))))
          have hr:may o=false:=by rw [may,nI a,nI d,nI e,nI i,if_pos u,nI x,nI z,nI a0,if_pos (decide_eq_true a6)]
          exact⟨by first|(rw [hr];done)|(rw [hr];rfl),q.drop 2⟩
         ·refine Zk (Zt (Zx (aN.nA zf (aN.cJ (aN.iT (Zt (Zs (Zg [6,11,16] (Zp 0 2 [(0,.agg (cB.cells o)),(1,.agg #[.int .u8 o.kind,.string o.key,.string aR,.string aR,.string o.dest,.int .u64 o.aY])] [(0,[.prop (Array.size (cB.cells o)=6),.cells ⟨b1,0,none⟩ (cB.cells o)]),(1,[.prop (Array.size (#[.int .u8 o.kind,.string o.key,.string aR,.string aR,.string o.dest,.int .u64 o.aY]:Array Value)=6),.cells ⟨b4,0,none⟩ #[.int .u8 o.kind,.string o.key,.string aR,.string aR,.string o.dest,.int .u64 o.aY]])] (ak (aL zk (eM (q.cells 1 0 rfl zk) aO)) (ak (aL zk (eM (q.cells 0 0 rfl zk) aO)) gQ)) (aU.jO rfl zk (b:=true) (t:=43) (xs:=cB.cells o) (ys:=cB.cells (⟨o.kind,o.key,aR,aR,o.dest,o.aY⟩:cB)) (m:=2) zk zk zf zk (r:=decide (o=(⟨o.kind,o.key,aR,aR,o.dest,o.aY⟩:cB))) (lE  (rZ o (⟨o.kind,o.key,aR,aR,o.dest,o.aY⟩:cB))) (Zr 3 1 [] (dB 56 (decide (o=(⟨o.kind,o.key,aR,aR,o.dest,o.aY⟩:cB))) (λa5=>?_) (λa5=>?_)))))))))))))
          ·refine Zj (Hl 5 1 1 q Hz) (eE (kR o.key  q) λj5 d0=>Lo (Dz (Zr 7 2 [] (dB 61 (keyed o.key) (λb5=>?_) (λb5=>?_)))))
           ·refine Zj (Hl 10 1 2 d0 Hz) (eE (fQ o.value  d0) λj7 d1=>Lo (Dz (Zr 12 2 [] (dB 66 (dT o.value) (λd2=>?_) (λd2=>?_)))))
            ·refine Zj (Hl 15 1 3 d1 Hz) (eE (fQ o.jK  d1) λj9 f4=>Lz (Le (Dz (bL (v:=.bool (dT o.jK)) ?_))))
             have hr:may o=(dT o.jK):=by rw [may,nI a,nI d,nI e,nI i,if_pos u,nI x,nI z,nI a0,if_neg (ne_true_of_eq_false (decide_eq_false a6)),if_pos a5,if_pos b5,if_pos d2]
             exact⟨by first|(rw [hr];done)|(rw [hr];rfl),f4.drop 2⟩
            ·refine En (Lw (gH (En (bO (Lt (Le (Dz (bL (v:=.bool false) ?_))))))))
             have hr:may o=false:=by rw [may,nI a,nI d,nI e,nI i,if_pos u,nI x,nI z,nI a0,if_neg (ne_true_of_eq_false (decide_eq_false a6)),if_pos a5,if_pos b5,nI d2]
             exact⟨by first|(rw [hr];done)|(rw [hr];rfl),d1.drop 2⟩
           ·refine En (Lw (gH (En (Lw (gH (En (bO (Lt (Le (Dz (bL (v:=.bool false) ?_)))))))))))
            have hr:may o=false:=by rw [may,nI a,nI d,nI e,nI i,if_pos u,nI x,nI z,nI a0,if_neg (ne_true_of_eq_false (decide_eq_false a6)),if_pos a5,nI b5]
            exact⟨by first|(rw [hr];done)|(rw [hr];rfl),d0.drop 2⟩
          ·refine En (Lw (gH (En (Lw (gH (En (Lw (gH (En (bO (Lt (Le (Dz (bL (v:=.bool false) ?_))))))))))))))
           have hr:may o=false:=by rw [may,nI a,nI d,nI e,nI i,if_pos u,nI x,nI z,nI a0,if_neg (ne_true_of_eq_false (decide_eq_false a6)),nI a5]
           exact⟨by first|(rw [hr];done)|(rw [hr];rfl),q.drop 2⟩
     ·refine Zk (Zt (Zx (aN.nA zf (aN.cJ (aN.nA zf (aN.cJ (aN.nA zf (aN.cJ (aN.nA zf (aN.cJ (aN.iT (Zt (Zs (Zs (Za (Zt (Ze (Zy (Zl (Zy (bL (v:=.bool false) ?_)))))))))))))))))))))
      have hr:may o=false:=by rw [may,nI a,nI d,nI e,nI i,nI u]
      exact⟨by first|(rw [hr];done)|(rw [hr];rfl),f.drop 2⟩
end
section
variable {w0 w : World} {L : List cA}
theorem CA (hs:St w0 L w):Cs Tryz.prog 72 #[] w λrv w'=>∃ p r:Nat,rv=zP p 0/\St w0 (aC p #[.map (some r)] 181::cI Value.string Value.string r ([]:List (ByteArray×ByteArray))::L) w':=by
 exact cL Tryz.func72 Tryz.ntmps72 (En (Lq (Ls (Lg [0,2] (Dz (aU.makeMap (α:=ByteArray) (β:=ByteArray) rfl rfl zk Value.string Value.string hs λr1 e a=>Lo (Lw (hG #[.map (some r1)] a λb f d=>Lz (Le (Dz (bL (v:=zP b 0) ⟨_,_,rfl,d⟩)))))))))))
def full (m:List (ByteArray×ByteArray)) (key:ByteArray):Bool :=
 if (!((bD m key).isSome))=true then
  (decide ((m.length:Int) >= 64))
 else
  false
theorem yX {p r:Nat}(m:List (ByteArray×ByteArray)) key (hs:St w0 (aC p #[.map (some r)] 181::cI Value.string Value.string r m::L) w):Cs Tryz.prog 223 #[zP p 0,.string key] w λrv w'=>rv=.bool (full m key)/\St w0 (aC p #[.map (some r)] 181::cI Value.string Value.string r m::L) w':=by
 refine cL Tryz.func223 Tryz.ntmps223 (En (Lq (Ls (Lg [] (Dz (gS 0 5 (Hl 3 0 0 hs Hz) (aU.lookup rfl zk pS (r:=r) (k:=key) (ok:=true) zk hs 1 rfl (z:=Value.string aR) zk (v:=.tuple #[.string ((bD m key).getD aR),.bool ((bD m key).isSome)]) (Dk _ _ _) (En (bO (Lt (Ls (Lg [] (Dz (Zr 0 3 [] (dB 18 (!((bD m key).isSome)) (λa=>?_) (λa=>?_))))))))))))))))
 ·refine gS 3 4 (Hl 6 0 0 hs Hz) (aU.LX rfl zk (T:=179) (K:=9) (E:=9) zk (r:=r) zk hs 1 rfl (En (bO (Lt (Le (Dz (bL (v:=.bool (decide ((m.length:Int) >= 64))) ?_)))))))
  have hr:full m key=(decide ((m.length:Int) >= 64)):=by rw [full,if_pos a]
  exact⟨by first|(rw [hr];done)|(rw [hr];rfl),by first|exact hs.eS 0|(rw [hr];exact hs.eS 0)⟩
 ·refine En (bO (Lt (Le (Dz (bL (v:=.bool false) ?_)))))
  have hr:full m key=false:=by rw [full,nI a]
  exact⟨by first|(rw [hr];done)|(rw [hr];rfl),by first|exact hs.eS 0|(rw [hr];exact hs.eS 0)⟩
def yc (m:List (ByteArray×ByteArray)) (o:cB) (was:ByteArray):bR×List (ByteArray×ByteArray) :=
 ((⟨0,was⟩:bR),m)
theorem GL {p r:Nat}(m:List (ByteArray×ByteArray)) (o:cB) was (hs:St w0 (aC p #[.map (some r)] 181::cI Value.string Value.string r m::L) w):Cs Tryz.prog 192 #[zP p 0,.agg (cB.cells o),.string was] w λrv w'=>rv=.agg (bR.cells ((yc m o was).1))/\St w0 (aC p #[.map (some r)] 181::cI Value.string Value.string r ((yc m o was).2)::L) w':=by
 refine cL Tryz.func192 Tryz.ntmps192 (En (Ls (Lg [0,1] (Dz (hG (cB.cells o) hs λf i d=>Lo (Dz (eN #[.int .i64 0,.string aR] d λq u e=>Lo (Ld (Lt (Ls (Lg [2] (Lw (Zu 0 0 #[.int .i64 0,.string was] e λx a=>Lo (Ld (Lt (Le (Dz (mJ 0 a ?_))))))))))))))))))
 have b:=(a.pl 3).pl 3
 have hr:yc m o was=((⟨0,was⟩:bR),m):=by rw [yc]
 exact⟨by first|(rw [hr];done)|(rw [hr];rfl),by first|exact b.eS 2|(rw [hr];exact b.eS 2)⟩
def vy (m:List (ByteArray×ByteArray)) (o:cB) (was:ByteArray):bR×List (ByteArray×ByteArray) :=
 if (full m o.key)=true then
  ((failed 7 aR),m)
 else
  ((⟨0,aR⟩:bR),eB m o.key o.value)
theorem GM {p r:Nat}(m:List (ByteArray×ByteArray)) (o:cB) was (hs:St w0 (aC p #[.map (some r)] 181::cI Value.string Value.string r m::L) w):Cs Tryz.prog 193 #[zP p 0,.agg (cB.cells o),.string was] w λrv w'=>rv=.agg (bR.cells ((vy m o was).1))/\St w0 (aC p #[.map (some r)] 181::cI Value.string Value.string r ((vy m o was).2)::L) w':=by
 refine cL Tryz.func193 Tryz.ntmps193 (En (Ls (Lg [0,1] (Dz (hG (cB.cells o) hs λb1 w2 x=>Lo (Dz (eN #[.int .i64 0,.string aR] x λb4 w5 e=>Lo (Ld (Lt (Ls (Ls (Dz (bX [3] (Hl 2 1 1 e Hz) (eE (yX m o.key  ((e.pl 3).pl 3)) λa2 i=>Lo (Ld (Lt (Dz (cZ (t:=full m o.key) (λb=>?_) (λb=>?_)))))))))))))))))))
 ·refine En (Ls (Lg [0,1] (Dz (dE (f:=160) (args:=#[.int .i64 7,.string aR]) Tryz.call160 (gZ 7 aR  i) ?_))))
  rintro a3 a4 ⟨rfl,a0⟩
  refine Lo (Dz (Zu 2 0 (bR.cells (failed 7 aR)) a0 λa5 d=>Lo (Ld (Lt (Le (Ly (Dz (mJ 2 d ?_))))))))
  have hr:vy m o was=((failed 7 aR),m):=by rw [vy,if_pos b]
  exact⟨by first|(rw [hr];done)|(rw [hr];rfl),by first|exact d.eS 2|(rw [hr];exact d.eS 2)⟩
 ·refine Zk (Zt (Zs (ZD (eR [0,1,2,3,4,5,6,7] (.ef 8 .done)) i λa6 a a7=>Zj (Hl 3 0 0 a (Hl 5 3 1 a (Hl 7 3 2 a Hz))) (aU.mapUpdate rfl zk pS (r:=r) (k:=o.key) (v:=o.value) zk a 1 rfl λa8 a1=>Lo (Ld (Lt (Ls (Lg [1] (Lw (Zu 2 0 #[.int .i64 0,.string aR] a1 λa9 q=>Lo (Ld (Lt (Le (Dz (mJ 2 q ?_)))))))))))))))
  have u:=(q.pl 0).pl 1
  have hr:vy m o was=((⟨0,aR⟩:bR),eB m o.key o.value):=by rw [vy,nI b]
  exact⟨by first|(rw [hr];done)|(rw [hr];rfl),by first|exact u.eS 2|(rw [hr];exact u.eS 2)⟩
def sb (m:List (ByteArray×ByteArray)) (o:cB) (was:ByteArray):bR×List (ByteArray×ByteArray) :=
 ((⟨0,was⟩:bR),mK m o.key)
theorem Ec {p r:Nat}(m:List (ByteArray×ByteArray)) (o:cB) was (hs:St w0 (aC p #[.map (some r)] 181::cI Value.string Value.string r m::L) w):Cs Tryz.prog 194 #[zP p 0,.agg (cB.cells o),.string was] w λrv w'=>rv=.agg (bR.cells ((sb m o was).1))/\St w0 (aC p #[.map (some r)] 181::cI Value.string Value.string r ((sb m o was).2)::L) w':=by
 refine cL Tryz.func194 Tryz.ntmps194 (En (Ls (Lg [0,1] (Dz (hG (cB.cells o) hs λq u e=>Lo (Dz (eN #[.int .i64 0,.string aR] e λx z f=>Lo (Ld (Lt (Ls (Dz (ZD (eR [0,1,2,3,4,5] (.ef 6 .done)) f λw7 a a0=>Zj (Hl 3 2 0 a (Hl 5 1 1 a Hz)) (aU.delete rfl zk pS (t2:=9) (r:=r) (k:=o.key) zk aR a 3 rfl λa1 i=>Lo (Ld (Lt (Ls (Lg [2] (Lw (Zu 1 0 #[.int .i64 0,.string was] i λa2 b=>Lo (Ld (Lt (Le (Dz (mJ 1 b ?_))))))))))))))))))))))))
 have d:=(b.pl 0).pl 3
 have hr:sb m o was=((⟨0,was⟩:bR),mK m o.key):=by rw [sb]
 exact⟨by first|(rw [hr];done)|(rw [hr];rfl),by first|exact d.eS 2|(rw [hr];exact d.eS 2)⟩
def qh (m:List (ByteArray×ByteArray)) (o:cB) (was:ByteArray):bR×List (ByteArray×ByteArray) :=
 if (!(decide (was=o.jK)))=true then
  ((failed 15 was),m)
 else
  ((⟨0,aR⟩:bR),eB m o.key o.value)
theorem Ed {p r:Nat}(m:List (ByteArray×ByteArray)) (o:cB) was (hs:St w0 (aC p #[.map (some r)] 181::cI Value.string Value.string r m::L) w):Cs Tryz.prog 195 #[zP p 0,.agg (cB.cells o),.string was] w λrv w'=>rv=.agg (bR.cells ((qh m o was).1))/\St w0 (aC p #[.map (some r)] 181::cI Value.string Value.string r ((qh m o was).2)::L) w':=by
 refine cL Tryz.func195 Tryz.ntmps195 (En (Ls (Lg [0,1] (Dz (hG (cB.cells o) hs λb1 w2 z=>Lo (Dz (eN #[.int .i64 0,.string aR] z λb4 w5 d=>Lo (Ld (Lt (Ls (Ls (Dz (cS (Hl 2 1 3 d (Hg 3 (.eJ (.bool (!(decide (was=o.jK)))) (.gen [])) [.prop (Value.bool (!(was.toList == o.jK.toList))=Value.bool (!(decide (was=o.jK))))] (aL (LY _ _) aO) Hz)) (Zt (cZ (t:=!(decide (was=o.jK))) (λa=>?_) (λa=>?_))))))))))))))))
 ·have e:=jV a
  refine En (Ls (Lg [1,2] (Lw (dE (f:=160) (args:=#[.int .i64 15,.string was]) Tryz.call160 (gZ 15 was  d) ?_))))
  rintro v9 a2 ⟨rfl,a0⟩
  refine Lo (Dz (Zu 0 0 (bR.cells (failed 15 was)) a0 λa3 i=>Lo (Ld (Lt (Le (Ly (Dz (mJ 0 i ?_))))))))
  have q:=(i.pl 3).pl 3
  have hr:qh m o was=((failed 15 was),m):=by rw [qh,if_pos a]
  exact⟨by first|(rw [hr];done)|(rw [hr];rfl),by first|exact q.eS 2|(rw [hr];exact q.eS 2)⟩
 ·have e:=jN a
  refine Zk (Zt (Zs (ZD (eR [0,1,2,3,4,5,6,7] (.ef 8 .done)) d λa4 b a5=>Zj (Hl 3 2 0 b (Hl 5 1 1 b (Hl 7 1 2 b Hz))) (aU.mapUpdate rfl zk pS (r:=r) (k:=o.key) (v:=o.value) zk b 3 rfl λa6 a1=>Lo (Ld (Lt (Ls (Lg [1] (Lw (Zu 1 0 #[.int .i64 0,.string aR] a1 λa7 u=>Lo (Ld (Lt (Le (Dz (mJ 1 u ?_)))))))))))))))
  have x:=(u.pl 0).pl 3
  have hr:qh m o was=((⟨0,aR⟩:bR),eB m o.key o.value):=by rw [qh,nI a]
  exact⟨by first|(rw [hr];done)|(rw [hr];rfl),by first|exact x.eS 2|(rw [hr];exact x.eS 2)⟩
end
end Go.Proofs.YtkmhmeldgfpfeaaGreatDoor
