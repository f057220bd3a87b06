/-
  Several texts in one: IgD, IgE, IgF, IgG, IhA, IhB, IhC, IhD, IhE, IhF, IhG, IhH, IhI, IhJ, IhK, IhL, IhM.
-/
import Derived.Test.YtdaohdehpmgfdaaGreatDoorSxT
import Derived.Test.YtdaohdehpmgfdaaGreatDoorGaD
namespace Go.Proofs.YtdaohdehpmgfdaaGreatDoor
open Go.RowKit Go.Sx
set_option linter.unusedVariables false
set_option linter.unusedSimpArgs false
set_option linter.unnecessarySimpa false
set_option maxRecDepth 100000
section
variable {P : Program} {R0 : Exit -> Act -> World -> Prop} {N : Fr} {K : List dS} {S : Env} {w w0 : World} {l : List Oper} {M : List Nat} {A : cE} {rest : PT} {L : List aI}
theorem ar.A9 {α:Type}{i:Nat}{o:Oper}(ho:l[i]?=some o) (hw:cn l.toArray S o=some true){t e:TypeId}{n:Nat}(ha:re S o=some (t,.int .i64 (n:Int),.int .i64 (n:Int))) (he:P.underlying t=some (.slice e)){ti:TypeInfo}(hi:P.info? e=some ti){z:Value}(hz:ti.zero=some z){f:α->Array Value}(d:α) (hzc:z.cells=f d){size:Nat}(hsz:ti.size=size) (hf:dE f size) (hp:0<size) (hn:n<=100000) (hby:ti.bytes<=100000) (hs:St w0 L w)
 (h:∀ b w',St w0 (Sl (some ⟨b,0,none⟩) n e size f (List.replicate n d)::L) w'->ba w' (opens M A i)/\ar P l M R0 K N A rest (S.cP o.dst (zL b 0 n n)) w'):ar P l M R0 K N A (.ef i rest) S w:=by
 have hbn:ti.bytes*n<=281474976710656:=by
  have:=Nat.mul_le_mul hby hn
  omega
 have hr:=run_make (P:=P) w t e ti z he hi hz .i64 .i64 (n:Int) (n:Int) za (Int.le_refl _) (by rw [<- Int.natCast_mul];omega) za
 rw [Int.toNat_natCast,hzc,hsz,pZ hf.size d n hp] at hr
 have hs2:=St.ey (l:=List.replicate n d) (f:=f) (hs.il (ae f (List.replicate n d)) e) zG hf.size (by rw [List.length_replicate,maxLen];omega) rfl
 rw [List.length_replicate] at hs2
 obtain⟨k1,k2⟩:=h _ _ hs2
 refine ar.run ho hw _ _ (λa hfit=>.inl ?_) k1 k2
 unfold re at ha
 split at ha
 ·rename_i t' x y hop
  split at ha
  ·rename_i a1 b1 h1 h2
   simp only [Option.some.injEq,Prod.mk.injEq] at ha
   obtain⟨rfl,rfl,rfl⟩:=ha
   have e1:=hfit.op h1
   have e2:=hfit.op h2
   generalize a.eval=ρ at e1 e2 ⊢
   simp only [execOp,hop,e1,e2,Sem.run_bind,hr,Result.andThen_ok]
   rfl
  ·cases ha
 ·cases ha
end
theorem oS {w0 w:World}{L:List aI}(n:Int) (hn:(n=3\/n=5)) (hs:St w0 L w):Calls Tryz.prog 90 #[.int .i64 n] w (aZ λrv w'=>rv=.bool true/\St w0 L w'):=by
 refine bp Tryz.func90 Tryz.ntmps90 ?_
 refine En (Ls (La (Lt (Ls (Dz ?_)))))
 refine aE.join (T:=Unit) (E:=λ_=>[(2,.bool (((decide ((n:Int) >= 3)) && (decide ((n:Int)<=11))) && (((n % 2):Int) == 1)))]) (F:=λ_ w=>St w0 L w) ?_ ?_
 ·refine Zg [] ?_
  refine Zr 0 3 [] ?_
  rcases Bool.eq_false_or_eq_true (decide ((n:Int) >= 3)) with h1|h1
  ·refine di 5 true h1 ?_
   have h1':(n:Int) >= 3:=of_decide_eq_true h1
   refine Zr 3 4 [] ?_
   rcases Bool.eq_false_or_eq_true (decide ((n:Int)<=11)) with h2|h2
   ·refine di 9 true h2 ?_
    have h2':(n:Int)<=11:=of_decide_eq_true h2
    refine gY (Hg 8 (.div (n % 2)) [.prop (IntKind.i64=IntKind.i64/\(2:Int)≠0/\Int.tmod n 2=n % 2)] (aB ⟨rfl,zf,Int.tmod_eq_emod_of_nonneg (by first|omega|exact Int.natCast_nonneg _)⟩ av) Hz) ?_
    refine aw.pick [2] (S':=[(2,.bool (((n % 2):Int) == 1))]) zk ?_
    exact aw.bD () (by first|rfl|(simp only [h1,h2,Bool.not_true,Bool.not_false,Bool.true_or,Bool.false_or,Bool.true_and,Bool.false_and,Bool.or_true,Bool.or_false,Bool.and_true,Bool.and_false];done)|(simp [h1,h2];done)) hs
   ·refine di 9 false h2 ?_
    have h2':¬ ((n:Int)<=11):=of_decide_eq_false h2
    refine En (aL (Dz ?_))
    refine aw.pick [2] (S':=[(2,.bool false)]) zk ?_
    exact aw.bD () (by first|rfl|(simp only [h1,h2,Bool.not_true,Bool.not_false,Bool.true_or,Bool.false_or,Bool.true_and,Bool.false_and,Bool.or_true,Bool.or_false,Bool.and_true,Bool.and_false];done)|(simp [h1,h2];done)) hs
  ·refine di 5 false h1 ?_
   have h1':¬ ((n:Int) >= 3):=of_decide_eq_false h1
   refine En (aL (Dz ?_))
   refine aw.pick [2] (S':=[(2,.bool false)]) zk ?_
   exact aw.bD () (by first|rfl|(simp only [h1,Bool.not_true,Bool.not_false,Bool.true_or,Bool.false_or,Bool.true_and,Bool.false_and,Bool.or_true,Bool.or_false,Bool.and_true,Bool.and_false];done)|(simp [h1];done)) hs
 intro _ w3 hs4
 refine Zt (Ze (?_))
 refine bg (v:=.bool (((decide ((n:Int) >= 3)) && (decide ((n:Int)<=11))) && (((n % 2):Int) == 1))) ?_
 exact⟨(by rcases hn with rfl|rfl<;>rfl),hs4⟩
theorem tR {w0 w:World}{L:List aI}(hs:St w0 L w):Calls Tryz.prog 46 #[.int .i64 3] w (aZ λrv w'=>∃ (lp:Nat),rv=.tuple #[zP lp 0,.int .i64 0]/\St w0 L w'):=by
 refine bp Tryz.func46 Tryz.ntmps46 ?_
 refine En (Ls (La (Lt (Ls (Ls (Lg [1] (Lu (Dz ?_))))))))
 refine aF Tryz.call90 (oS 3 zf hs) ?_
 rintro v2 w3 ⟨rfl,hs1⟩
 refine Lo (aL (Lt (LF (Lk (Lt (Ls (Lg [1,2,4,5,8,10] (Lu (Dz ?_)))))))))
 refine ar.makeMap (α:=Int) (β:=Nat) rfl rfl zk kA gW hs1 ?_
 intro r4 w5 hs6
 refine Lo (Dz ?_)
 refine ar.makeMap (α:=Int×Int) (β:=Bool) rfl rfl zk lE lF hs6 ?_
 intro r7 w8 hs9
 refine Lo (Lu (Dz ?_))
 refine ar.box rfl rfl zk (v:=.agg #[.int .u64 0,.int .i64 0,.slice none 0 0,.slice none 0 0,.map (some r7)]) zk hs9 (cs:=#[.int .u64 0,.int .i64 0,.slice none 0 0,.slice none 0 0,.map (some r7)]) zk ?_
 intro b10 w11 hs12
 refine Lo (Dz ?_)
 refine ar.insert rfl zk oQ (r:=r4) (k:=0) (v:=b10) zk hs12 2 rfl ?_
 intro w13 hs14
 refine Lo (Lu (Dz ?_))
 refine ar.A9 rfl zk (t:=184) (e:=306) (n:=3) zk zk (ti:=Tryz.t306) zk (z:=.slice none 0 0) zk (f:=fM.cells) bK zk (size:=1) zk tO zf zf (Nat.le_of_ble_eq_true zk) hs14 ?_
 intro b15 w16 hs17
 have hs18:St w0 (Sl (some ⟨b15,0,none⟩) 3 306 1 fM.cells ([bK,bK,bK])::bC kA gW r4 (dj ([]) 0 b10)::ah b10 #[.int .u64 0,.int .i64 0,.slice none 0 0,.slice none 0 0,.map (some r7)] 182::bC lE lF r7 ([])::L) w16:=hs17
 refine Lo (Lu (Dz ?_))
 refine ar.box rfl rfl zk (v:=.agg #[.int .i64 3,.int .u64 0,.int .u64 0,.int .u64 0,.int .u64 0,.int .u64 0,.int .u64 0,.int .u64 0,.int .u64 0,.int .u64 0,.int .u64 0,.int .u64 0,.map (some r4),.slice none 0 0,zL b15 0 3 3]) zk hs18 (cs:=#[.int .i64 3,.int .u64 0,.int .u64 0,.int .u64 0,.int .u64 0,.int .u64 0,.int .u64 0,.int .u64 0,.int .u64 0,.int .u64 0,.int .u64 0,.int .u64 0,.map (some r4),.slice none 0 0,zL b15 0 3 3]) zk ?_
 intro b19 w20 hs21
 refine Lo (aL (Lt (Ls (Ls (La (Lt (Lb (Dz ?_))))))))
 refine aE.dJ 6 ?_
 refine En (Ls (La (Lt (Ls (LT (Lk (Lt (Ls (Lb (Dz ?_))))))))))
 refine aE.aV [0,0,2,6,14,0,32,126,255,511,1023] (.rd 0 (.rd 1 (.rd 2 (.rd 3 (.rd 4 (.ef 5 (.ef 6 (.ef 7 (.rd 8 (.rd 9 (.ef 10 .done))))))))))) zk zk ai zk hs21 ?_
 intro w22 hs23 hw24
 refine Zj (Hl 4 0 13 hs23 Hz) ?_
 refine aF Tryz.call91 (eR hs23) ?_
 rintro v30 w31 ⟨pp25,eb26,ec27,vm28,rfl,hs29⟩
 refine⟨bw (n:=[.cell ⟨b19,13,none⟩ (.slice none 0 0)]) zk (aG (hs29.cell 2 rfl zk) av),?_⟩
 refine ar.aW rfl zk (t:=185) (e:=188) (n:=1) (ps:=[(0,zP pp25 0)]) zk zk (ti:=Tryz.t188) (z:=.pointer none) zk zk zf zf (cs:=#[zP pp25 0]) zk hs29 ?_
 intro b32 w33 hs34 hz35
 have hs36:St w0 (Sl (some ⟨b32,0,none⟩) 1 188 1 cO ([((pp25,0):(Nat×Nat))])::ah pp25 #[.int .u64 0,zL eb26 0 1 ec27,.map (some vm28)] 251::Sl (some ⟨eb26,0,none⟩) ec27 31 1 bG ([(0:Int)])::ah b19 #[.int .i64 3,.int .u64 0,.int .u64 0,.int .u64 0,.int .u64 0,.int .u64 0,.int .u64 0,.int .u64 0,.int .u64 0,.int .u64 0,.int .u64 0,.int .u64 0,.map (some r4),.slice none 0 0,zL b15 0 3 3] 187::Sl (some ⟨b15,0,none⟩) 3 306 1 fM.cells ([bK,bK,bK])::bC kA gW r4 (dj ([]) 0 b10)::ah b10 #[.int .u64 0,.int .i64 0,.slice none 0 0,.slice none 0 0,.map (some r7)] 182::bC lE lF r7 ([])::L) w33:=St.ey (l:=[((pp25,0):(Nat×Nat))]) (f:=cO) hs34 hz35 gm.size zh zk
 refine⟨bw (n:=[.cell ⟨b19,13,none⟩ (.slice none 0 0)]) zk (aG (hs36.cell 3 rfl zk) av),?_⟩
 have hs39:=St.bW hs36 188 1 cO
 refine ar.append rfl zk mM gm (ad:=none) (c:=0) (xs:=([]:List (Nat×Nat))) (ys:=[((pp25,0):(Nat×Nat))]) (adx:=some ⟨b32,0,none⟩) (cx:=1) (0,0) zk hs39 (hs39.rows 1 rfl gm.size (0,0)) (λh=>nomatch h) zg zg ?_
 intro ad40 c41 w37 hs38
 refine Lo (Lu (Dz ?_))
 refine Zv (b:=b19) (off:=13) (v:=.slice ad40 ((([]:List (Nat×Nat))++([((pp25,0):(Nat×Nat))])).length) c41) (ti:=Tryz.t185) zk hs38 4 (cs':=#[.int .i64 3,.int .u64 0,.int .u64 0,.int .u64 0,.int .u64 0,.int .u64 0,.int .u64 0,.int .u64 0,.int .u64 0,.int .u64 0,.int .u64 0,.int .u64 0,.map (some r4),.slice ad40 ((([]:List (Nat×Nat))++([((pp25,0):(Nat×Nat))])).length) c41,zL b15 0 3 3]) ?_
 intro w42 hs43
 refine Lo (Ld (Lm (Lt (La (Dz ?_)))))
 refine aw.again ?_
 refine En (Ls (La (Lt (Ls (LT (Lk (Lt (Ls (Lb (Dz ?_))))))))))
 refine aE.aV [0,0,2,6,14,0,32,126,255,511,1023] (.rd 0 (.rd 1 (.rd 2 (.rd 3 (.rd 4 (.ef 5 (.ef 6 (.ef 7 (.rd 8 (.rd 9 (.ef 10 .done))))))))))) zk zk ai zk hs43 ?_
 intro w44 hs45 hw46
 refine Zj (Hl 4 4 13 hs45 Hz) ?_
 refine aF Tryz.call91 (eR hs45) ?_
 rintro v52 w53 ⟨pp47,eb48,ec49,vm50,rfl,hs51⟩
 refine⟨bw (n:=[.cell ⟨b19,13,none⟩ (.slice ad40 ((([]:List (Nat×Nat))++([((pp25,0):(Nat×Nat))])).length) c41)]) zk (aG (hs51.cell 6 rfl zk) av),?_⟩
 refine ar.aW rfl zk (t:=185) (e:=188) (n:=1) (ps:=[(0,zP pp47 0)]) zk zk (ti:=Tryz.t188) (z:=.pointer none) zk zk zf zf (cs:=#[zP pp47 0]) zk hs51 ?_
 intro b54 w55 hs56 hz57
 have hs58:St w0 (Sl (some ⟨b54,0,none⟩) 1 188 1 cO ([((pp47,0):(Nat×Nat))])::ah pp47 #[.int .u64 0,zL eb48 0 1 ec49,.map (some vm50)] 251::Sl (some ⟨eb48,0,none⟩) ec49 31 1 bG ([(0:Int)])::Sl ad40 c41 188 1 cO (([]:List (Nat×Nat))++([((pp25,0):(Nat×Nat))]))::Sl (some ⟨b32,0,none⟩) 1 188 1 cO ([((pp25,0):(Nat×Nat))])::ah pp25 #[.int .u64 0,zL eb26 0 1 ec27,.map (some vm28)] 251::Sl (some ⟨eb26,0,none⟩) ec27 31 1 bG ([(0:Int)])::ah b19 #[.int .i64 3,.int .u64 0,.int .u64 0,.int .u64 0,.int .u64 0,.int .u64 0,.int .u64 0,.int .u64 0,.int .u64 0,.int .u64 0,.int .u64 0,.int .u64 0,.map (some r4),.slice ad40 ((([]:List (Nat×Nat))++([((pp25,0):(Nat×Nat))])).length) c41,zL b15 0 3 3] 187::Sl (some ⟨b15,0,none⟩) 3 306 1 fM.cells ([bK,bK,bK])::bC kA gW r4 (dj ([]) 0 b10)::ah b10 #[.int .u64 0,.int .i64 0,.slice none 0 0,.slice none 0 0,.map (some r7)] 182::bC lE lF r7 ([])::L) w55:=St.ey (l:=[((pp47,0):(Nat×Nat))]) (f:=cO) hs56 hz57 gm.size zh zk
 refine⟨bw (n:=[.cell ⟨b19,13,none⟩ (.slice ad40 ((([]:List (Nat×Nat))++([((pp25,0):(Nat×Nat))])).length) c41)]) zk (aG (hs58.cell 7 rfl zk) av),?_⟩
 have hs61:=hs58.pl 3
 refine ar.append rfl zk mM gm (ad:=ad40) (c:=c41) (xs:=([]:List (Nat×Nat))++([((pp25,0):(Nat×Nat))])) (ys:=[((pp47,0):(Nat×Nat))]) (adx:=some ⟨b54,0,none⟩) (cx:=1) (0,0) zk hs61 (hs61.rows 1 rfl gm.size (0,0)) (λh=>nomatch h) zg zg ?_
 intro ad62 c63 w59 hs60
 refine Lo (Lu (Dz ?_))
 refine Zv (b:=b19) (off:=13) (v:=.slice ad62 (((([]:List (Nat×Nat))++([((pp25,0):(Nat×Nat))]))++([((pp47,0):(Nat×Nat))])).length) c63) (ti:=Tryz.t185) zk hs60 7 (cs':=#[.int .i64 3,.int .u64 0,.int .u64 0,.int .u64 0,.int .u64 0,.int .u64 0,.int .u64 0,.int .u64 0,.int .u64 0,.int .u64 0,.int .u64 0,.int .u64 0,.map (some r4),.slice ad62 (((([]:List (Nat×Nat))++([((pp25,0):(Nat×Nat))]))++([((pp47,0):(Nat×Nat))])).length) c63,zL b15 0 3 3]) ?_
 intro w64 hs65
 refine Lo (Ld (Lm (Lt (La (Dz ?_)))))
 refine aw.again ?_
 refine En (Ls (La (Lt (Ls (LT (Lk (Lt (Ls (Lb (Dz ?_))))))))))
 refine aE.aV [0,0,2,6,14,0,32,126,255,511,1023] (.rd 0 (.rd 1 (.rd 2 (.rd 3 (.rd 4 (.ef 5 (.ef 6 (.ef 7 (.rd 8 (.rd 9 (.ef 10 .done))))))))))) zk zk ai zk hs65 ?_
 intro w66 hs67 hw68
 refine Zj (Hl 4 7 13 hs67 Hz) ?_
 refine aF Tryz.call91 (eR hs67) ?_
 rintro v74 w75 ⟨pp69,eb70,ec71,vm72,rfl,hs73⟩
 refine⟨bw (n:=[.cell ⟨b19,13,none⟩ (.slice ad62 (((([]:List (Nat×Nat))++([((pp25,0):(Nat×Nat))]))++([((pp47,0):(Nat×Nat))])).length) c63)]) zk (aG (hs73.cell 9 rfl zk) av),?_⟩
 refine ar.aW rfl zk (t:=185) (e:=188) (n:=1) (ps:=[(0,zP pp69 0)]) zk zk (ti:=Tryz.t188) (z:=.pointer none) zk zk zf zf (cs:=#[zP pp69 0]) zk hs73 ?_
 intro b76 w77 hs78 hz79
 have hs80:St w0 (Sl (some ⟨b76,0,none⟩) 1 188 1 cO ([((pp69,0):(Nat×Nat))])::ah pp69 #[.int .u64 0,zL eb70 0 1 ec71,.map (some vm72)] 251::Sl (some ⟨eb70,0,none⟩) ec71 31 1 bG ([(0:Int)])::Sl ad62 c63 188 1 cO ((([]:List (Nat×Nat))++([((pp25,0):(Nat×Nat))]))++([((pp47,0):(Nat×Nat))]))::Sl (some ⟨b54,0,none⟩) 1 188 1 cO ([((pp47,0):(Nat×Nat))])::ah pp47 #[.int .u64 0,zL eb48 0 1 ec49,.map (some vm50)] 251::Sl (some ⟨eb48,0,none⟩) ec49 31 1 bG ([(0:Int)])::Sl (some ⟨b32,0,none⟩) 1 188 1 cO ([((pp25,0):(Nat×Nat))])::ah pp25 #[.int .u64 0,zL eb26 0 1 ec27,.map (some vm28)] 251::Sl (some ⟨eb26,0,none⟩) ec27 31 1 bG ([(0:Int)])::ah b19 #[.int .i64 3,.int .u64 0,.int .u64 0,.int .u64 0,.int .u64 0,.int .u64 0,.int .u64 0,.int .u64 0,.int .u64 0,.int .u64 0,.int .u64 0,.int .u64 0,.map (some r4),.slice ad62 (((([]:List (Nat×Nat))++([((pp25,0):(Nat×Nat))]))++([((pp47,0):(Nat×Nat))])).length) c63,zL b15 0 3 3] 187::Sl (some ⟨b15,0,none⟩) 3 306 1 fM.cells ([bK,bK,bK])::bC kA gW r4 (dj ([]) 0 b10)::ah b10 #[.int .u64 0,.int .i64 0,.slice none 0 0,.slice none 0 0,.map (some r7)] 182::bC lE lF r7 ([])::L) w77:=St.ey (l:=[((pp69,0):(Nat×Nat))]) (f:=cO) hs78 hz79 gm.size zh zk
 refine⟨bw (n:=[.cell ⟨b19,13,none⟩ (.slice ad62 (((([]:List (Nat×Nat))++([((pp25,0):(Nat×Nat))]))++([((pp47,0):(Nat×Nat))])).length) c63)]) zk (aG (hs80.cell 10 rfl zk) av),?_⟩
 have hs83:=hs80.pl 3
 refine ar.append rfl zk mM gm (ad:=ad62) (c:=c63) (xs:=(([]:List (Nat×Nat))++([((pp25,0):(Nat×Nat))]))++([((pp47,0):(Nat×Nat))])) (ys:=[((pp69,0):(Nat×Nat))]) (adx:=some ⟨b76,0,none⟩) (cx:=1) (0,0) zk hs83 (hs83.rows 1 rfl gm.size (0,0)) (λh=>nomatch h) zg zg ?_
 intro ad84 c85 w81 hs82
 refine Lo (Lu (Dz ?_))
 refine Zv (b:=b19) (off:=13) (v:=.slice ad84 ((((([]:List (Nat×Nat))++([((pp25,0):(Nat×Nat))]))++([((pp47,0):(Nat×Nat))]))++([((pp69,0):(Nat×Nat))])).length) c85) (ti:=Tryz.t185) zk hs82 10 (cs':=#[.int .i64 3,.int .u64 0,.int .u64 0,.int .u64 0,.int .u64 0,.int .u64 0,.int .u64 0,.int .u64 0,.int .u64 0,.int .u64 0,.int .u64 0,.int .u64 0,.map (some r4),.slice ad84 ((((([]:List (Nat×Nat))++([((pp25,0):(Nat×Nat))]))++([((pp47,0):(Nat×Nat))]))++([((pp69,0):(Nat×Nat))])).length) c85,zL b15 0 3 3]) ?_
 intro w86 hs87
 refine Lo (Ld (Lm (Lt (La (Dz ?_)))))
 refine aw.again ?_
 refine En (Ls (La (Lt (Ls (LF (Lx (gv (gw (Lh (Lt (Ls (La (Lt (Le (Dz ?_)))))))))))))))
 refine jE (v:=zP b19 0) (v':=.int .i64 0) ?_
 have hs88:=hs87.dr 15
 exact⟨b19,rfl,hs88⟩
theorem tS {w0 w:World}{L:List aI}(hs:St w0 L w):Calls Tryz.prog 46 #[.int .i64 5] w (aZ λrv w'=>∃ (lp:Nat) (gg2:Cx),rv=.tuple #[zP lp 0,.int .i64 0]/\St w0 (LG lp 0 gg2::L) w'):=by
 refine bp Tryz.func46 Tryz.ntmps46 ?_
 refine En (Ls (La (Lt (Ls (Ls (Lg [1] (Lu (Dz ?_))))))))
 refine aF Tryz.call90 (oS 5 zf hs) ?_
 rintro v2 w3 ⟨rfl,hs1⟩
 refine Lo (aL (Lt (LF (Lk (Lt (Ls (Lg [1,2,4,5,8,10] (Lu (Dz ?_)))))))))
 refine ar.makeMap (α:=Int) (β:=Nat) rfl rfl zk kA gW hs1 ?_
 intro r4 w5 hs6
 refine Lo (Dz ?_)
 refine ar.makeMap (α:=Int×Int) (β:=Bool) rfl rfl zk lE lF hs6 ?_
 intro r7 w8 hs9
 refine Lo (Lu (Dz ?_))
 refine ar.box rfl rfl zk (v:=.agg #[.int .u64 0,.int .i64 0,.slice none 0 0,.slice none 0 0,.map (some r7)]) zk hs9 (cs:=#[.int .u64 0,.int .i64 0,.slice none 0 0,.slice none 0 0,.map (some r7)]) zk ?_
 intro b10 w11 hs12
 refine Lo (Dz ?_)
 refine ar.insert rfl zk oQ (r:=r4) (k:=0) (v:=b10) zk hs12 2 rfl ?_
 intro w13 hs14
 refine Lo (Lu (Dz ?_))
 refine ar.A9 rfl zk (t:=184) (e:=306) (n:=5) zk zk (ti:=Tryz.t306) zk (z:=.slice none 0 0) zk (f:=fM.cells) bK zk (size:=1) zk tO zf zf (Nat.le_of_ble_eq_true zk) hs14 ?_
 intro b15 w16 hs17
 have hs18:St w0 (Sl (some ⟨b15,0,none⟩) 5 306 1 fM.cells ([bK,bK,bK,bK,bK])::bC kA gW r4 (dj ([]) 0 b10)::ah b10 #[.int .u64 0,.int .i64 0,.slice none 0 0,.slice none 0 0,.map (some r7)] 182::bC lE lF r7 ([])::L) w16:=hs17
 refine Lo (Lu (Dz ?_))
 refine ar.box rfl rfl zk (v:=.agg #[.int .i64 5,.int .u64 0,.int .u64 0,.int .u64 0,.int .u64 0,.int .u64 0,.int .u64 0,.int .u64 0,.int .u64 0,.int .u64 0,.int .u64 0,.int .u64 0,.map (some r4),.slice none 0 0,zL b15 0 5 5]) zk hs18 (cs:=#[.int .i64 5,.int .u64 0,.int .u64 0,.int .u64 0,.int .u64 0,.int .u64 0,.int .u64 0,.int .u64 0,.int .u64 0,.int .u64 0,.int .u64 0,.int .u64 0,.map (some r4),.slice none 0 0,zL b15 0 5 5]) zk ?_
 intro b19 w20 hs21
 refine Lo (aL (Lt (Ls (Ls (La (Lt (Lb (Dz ?_))))))))
 refine aE.dJ 6 ?_
 refine En (Ls (La (Lt (Ls (LT (Lk (Lt (Ls (Lb (Dz ?_))))))))))
 refine aE.aV [0,0,2,6,14,0,32,126,255,511,1023] (.rd 0 (.rd 1 (.rd 2 (.rd 3 (.rd 4 (.ef 5 (.ef 6 (.ef 7 (.rd 8 (.rd 9 (.ef 10 .done))))))))))) zk zk ai zk hs21 ?_
 intro w22 hs23 hw24
 refine Zj (Hl 4 0 13 hs23 Hz) ?_
 refine aF Tryz.call91 (eR hs23) ?_
 rintro v30 w31 ⟨pp25,eb26,ec27,vm28,rfl,hs29⟩
 refine⟨bw (n:=[.cell ⟨b19,13,none⟩ (.slice none 0 0)]) zk (aG (hs29.cell 2 rfl zk) av),?_⟩
 refine ar.aW rfl zk (t:=185) (e:=188) (n:=1) (ps:=[(0,zP pp25 0)]) zk zk (ti:=Tryz.t188) (z:=.pointer none) zk zk zf zf (cs:=#[zP pp25 0]) zk hs29 ?_
 intro b32 w33 hs34 hz35
 have hs36:St w0 (Sl (some ⟨b32,0,none⟩) 1 188 1 cO ([((pp25,0):(Nat×Nat))])::ah pp25 #[.int .u64 0,zL eb26 0 1 ec27,.map (some vm28)] 251::Sl (some ⟨eb26,0,none⟩) ec27 31 1 bG ([(0:Int)])::ah b19 #[.int .i64 5,.int .u64 0,.int .u64 0,.int .u64 0,.int .u64 0,.int .u64 0,.int .u64 0,.int .u64 0,.int .u64 0,.int .u64 0,.int .u64 0,.int .u64 0,.map (some r4),.slice none 0 0,zL b15 0 5 5] 187::Sl (some ⟨b15,0,none⟩) 5 306 1 fM.cells ([bK,bK,bK,bK,bK])::bC kA gW r4 (dj ([]) 0 b10)::ah b10 #[.int .u64 0,.int .i64 0,.slice none 0 0,.slice none 0 0,.map (some r7)] 182::bC lE lF r7 ([])::L) w33:=St.ey (l:=[((pp25,0):(Nat×Nat))]) (f:=cO) hs34 hz35 gm.size zh zk
 refine⟨bw (n:=[.cell ⟨b19,13,none⟩ (.slice none 0 0)]) zk (aG (hs36.cell 3 rfl zk) av),?_⟩
 have hs39:=St.bW hs36 188 1 cO
 refine ar.append rfl zk mM gm (ad:=none) (c:=0) (xs:=([]:List (Nat×Nat))) (ys:=[((pp25,0):(Nat×Nat))]) (adx:=some ⟨b32,0,none⟩) (cx:=1) (0,0) zk hs39 (hs39.rows 1 rfl gm.size (0,0)) (λh=>nomatch h) zg zg ?_
 intro ad40 c41 w37 hs38
 refine Lo (Lu (Dz ?_))
 refine Zv (b:=b19) (off:=13) (v:=.slice ad40 ((([]:List (Nat×Nat))++([((pp25,0):(Nat×Nat))])).length) c41) (ti:=Tryz.t185) zk hs38 4 (cs':=#[.int .i64 5,.int .u64 0,.int .u64 0,.int .u64 0,.int .u64 0,.int .u64 0,.int .u64 0,.int .u64 0,.int .u64 0,.int .u64 0,.int .u64 0,.int .u64 0,.map (some r4),.slice ad40 ((([]:List (Nat×Nat))++([((pp25,0):(Nat×Nat))])).length) c41,zL b15 0 5 5]) ?_
 intro w42 hs43
 refine Lo (Ld (Lm (Lt (La (Dz ?_)))))
 refine aw.again ?_
 refine En (Ls (La (Lt (Ls (LT (Lk (Lt (Ls (Lb (Dz ?_))))))))))
 refine aE.aV [0,0,2,6,14,0,32,126,255,511,1023] (.rd 0 (.rd 1 (.rd 2 (.rd 3 (.rd 4 (.ef 5 (.ef 6 (.ef 7 (.rd 8 (.rd 9 (.ef 10 .done))))))))))) zk zk ai zk hs43 ?_
 intro w44 hs45 hw46
 refine Zj (Hl 4 4 13 hs45 Hz) ?_
 refine aF Tryz.call91 (eR hs45) ?_
 rintro v52 w53 ⟨pp47,eb48,ec49,vm50,rfl,hs51⟩
 refine⟨bw (n:=[.cell ⟨b19,13,none⟩ (.slice ad40 ((([]:List (Nat×Nat))++([((pp25,0):(Nat×Nat))])).length) c41)]) zk (aG (hs51.cell 6 rfl zk) av),?_⟩
 refine ar.aW rfl zk (t:=185) (e:=188) (n:=1) (ps:=[(0,zP pp47 0)]) zk zk (ti:=Tryz.t188) (z:=.pointer none) zk zk zf zf (cs:=#[zP pp47 0]) zk hs51 ?_
 intro b54 w55 hs56 hz57
 have hs58:St w0 (Sl (some ⟨b54,0,none⟩) 1 188 1 cO ([((pp47,0):(Nat×Nat))])::ah pp47 #[.int .u64 0,zL eb48 0 1 ec49,.map (some vm50)] 251::Sl (some ⟨eb48,0,none⟩) ec49 31 1 bG ([(0:Int)])::Sl ad40 c41 188 1 cO (([]:List (Nat×Nat))++([((pp25,0):(Nat×Nat))]))::Sl (some ⟨b32,0,none⟩) 1 188 1 cO ([((pp25,0):(Nat×Nat))])::ah pp25 #[.int .u64 0,zL eb26 0 1 ec27,.map (some vm28)] 251::Sl (some ⟨eb26,0,none⟩) ec27 31 1 bG ([(0:Int)])::ah b19 #[.int .i64 5,.int .u64 0,.int .u64 0,.int .u64 0,.int .u64 0,.int .u64 0,.int .u64 0,.int .u64 0,.int .u64 0,.int .u64 0,.int .u64 0,.int .u64 0,.map (some r4),.slice ad40 ((([]:List (Nat×Nat))++([((pp25,0):(Nat×Nat))])).length) c41,zL b15 0 5 5] 187::Sl (some ⟨b15,0,none⟩) 5 306 1 fM.cells ([bK,bK,bK,bK,bK])::bC kA gW r4 (dj ([]) 0 b10)::ah b10 #[.int .u64 0,.int .i64 0,.slice none 0 0,.slice none 0 0,.map (some r7)] 182::bC lE lF r7 ([])::L) w55:=St.ey (l:=[((pp47,0):(Nat×Nat))]) (f:=cO) hs56 hz57 gm.size zh zk
 refine⟨bw (n:=[.cell ⟨b19,13,none⟩ (.slice ad40 ((([]:List (Nat×Nat))++([((pp25,0):(Nat×Nat))])).length) c41)]) zk (aG (hs58.cell 7 rfl zk) av),?_⟩
 have hs61:=hs58.pl 3
 refine ar.append rfl zk mM gm (ad:=ad40) (c:=c41) (xs:=([]:List (Nat×Nat))++([((pp25,0):(Nat×Nat))])) (ys:=[((pp47,0):(Nat×Nat))]) (adx:=some ⟨b54,0,none⟩) (cx:=1) (0,0) zk hs61 (hs61.rows 1 rfl gm.size (0,0)) (λh=>nomatch h) zg zg ?_
 intro ad62 c63 w59 hs60
 refine Lo (Lu (Dz ?_))
 refine Zv (b:=b19) (off:=13) (v:=.slice ad62 (((([]:List (Nat×Nat))++([((pp25,0):(Nat×Nat))]))++([((pp47,0):(Nat×Nat))])).length) c63) (ti:=Tryz.t185) zk hs60 7 (cs':=#[.int .i64 5,.int .u64 0,.int .u64 0,.int .u64 0,.int .u64 0,.int .u64 0,.int .u64 0,.int .u64 0,.int .u64 0,.int .u64 0,.int .u64 0,.int .u64 0,.map (some r4),.slice ad62 (((([]:List (Nat×Nat))++([((pp25,0):(Nat×Nat))]))++([((pp47,0):(Nat×Nat))])).length) c63,zL b15 0 5 5]) ?_
 intro w64 hs65
 refine Lo (Ld (Lm (Lt (La (Dz ?_)))))
 refine aw.again ?_
 refine En (Ls (La (Lt (Ls (LT (Lk (Lt (Ls (Lb (Dz ?_))))))))))
 refine aE.aV [0,0,2,6,14,0,32,126,255,511,1023] (.rd 0 (.rd 1 (.rd 2 (.rd 3 (.rd 4 (.ef 5 (.ef 6 (.ef 7 (.rd 8 (.rd 9 (.ef 10 .done))))))))))) zk zk ai zk hs65 ?_
 intro w66 hs67 hw68
 refine Zj (Hl 4 7 13 hs67 Hz) ?_
 refine aF Tryz.call91 (eR hs67) ?_
 rintro v74 w75 ⟨pp69,eb70,ec71,vm72,rfl,hs73⟩
 refine⟨bw (n:=[.cell ⟨b19,13,none⟩ (.slice ad62 (((([]:List (Nat×Nat))++([((pp25,0):(Nat×Nat))]))++([((pp47,0):(Nat×Nat))])).length) c63)]) zk (aG (hs73.cell 9 rfl zk) av),?_⟩
 refine ar.aW rfl zk (t:=185) (e:=188) (n:=1) (ps:=[(0,zP pp69 0)]) zk zk (ti:=Tryz.t188) (z:=.pointer none) zk zk zf zf (cs:=#[zP pp69 0]) zk hs73 ?_
 intro b76 w77 hs78 hz79
 have hs80:St w0 (Sl (some ⟨b76,0,none⟩) 1 188 1 cO ([((pp69,0):(Nat×Nat))])::ah pp69 #[.int .u64 0,zL eb70 0 1 ec71,.map (some vm72)] 251::Sl (some ⟨eb70,0,none⟩) ec71 31 1 bG ([(0:Int)])::Sl ad62 c63 188 1 cO ((([]:List (Nat×Nat))++([((pp25,0):(Nat×Nat))]))++([((pp47,0):(Nat×Nat))]))::Sl (some ⟨b54,0,none⟩) 1 188 1 cO ([((pp47,0):(Nat×Nat))])::ah pp47 #[.int .u64 0,zL eb48 0 1 ec49,.map (some vm50)] 251::Sl (some ⟨eb48,0,none⟩) ec49 31 1 bG ([(0:Int)])::Sl (some ⟨b32,0,none⟩) 1 188 1 cO ([((pp25,0):(Nat×Nat))])::ah pp25 #[.int .u64 0,zL eb26 0 1 ec27,.map (some vm28)] 251::Sl (some ⟨eb26,0,none⟩) ec27 31 1 bG ([(0:Int)])::ah b19 #[.int .i64 5,.int .u64 0,.int .u64 0,.int .u64 0,.int .u64 0,.int .u64 0,.int .u64 0,.int .u64 0,.int .u64 0,.int .u64 0,.int .u64 0,.int .u64 0,.map (some r4),.slice ad62 (((([]:List (Nat×Nat))++([((pp25,0):(Nat×Nat))]))++([((pp47,0):(Nat×Nat))])).length) c63,zL b15 0 5 5] 187::Sl (some ⟨b15,0,none⟩) 5 306 1 fM.cells ([bK,bK,bK,bK,bK])::bC kA gW r4 (dj ([]) 0 b10)::ah b10 #[.int .u64 0,.int .i64 0,.slice none 0 0,.slice none 0 0,.map (some r7)] 182::bC lE lF r7 ([])::L) w77:=St.ey (l:=[((pp69,0):(Nat×Nat))]) (f:=cO) hs78 hz79 gm.size zh zk
 refine⟨bw (n:=[.cell ⟨b19,13,none⟩ (.slice ad62 (((([]:List (Nat×Nat))++([((pp25,0):(Nat×Nat))]))++([((pp47,0):(Nat×Nat))])).length) c63)]) zk (aG (hs80.cell 10 rfl zk) av),?_⟩
 have hs83:=hs80.pl 3
 refine ar.append rfl zk mM gm (ad:=ad62) (c:=c63) (xs:=(([]:List (Nat×Nat))++([((pp25,0):(Nat×Nat))]))++([((pp47,0):(Nat×Nat))])) (ys:=[((pp69,0):(Nat×Nat))]) (adx:=some ⟨b76,0,none⟩) (cx:=1) (0,0) zk hs83 (hs83.rows 1 rfl gm.size (0,0)) (λh=>nomatch h) zg zg ?_
 intro ad84 c85 w81 hs82
 refine Lo (Lu (Dz ?_))
 refine Zv (b:=b19) (off:=13) (v:=.slice ad84 ((((([]:List (Nat×Nat))++([((pp25,0):(Nat×Nat))]))++([((pp47,0):(Nat×Nat))]))++([((pp69,0):(Nat×Nat))])).length) c85) (ti:=Tryz.t185) zk hs82 10 (cs':=#[.int .i64 5,.int .u64 0,.int .u64 0,.int .u64 0,.int .u64 0,.int .u64 0,.int .u64 0,.int .u64 0,.int .u64 0,.int .u64 0,.int .u64 0,.int .u64 0,.map (some r4),.slice ad84 ((((([]:List (Nat×Nat))++([((pp25,0):(Nat×Nat))]))++([((pp47,0):(Nat×Nat))]))++([((pp69,0):(Nat×Nat))])).length) c85,zL b15 0 5 5]) ?_
 intro w86 hs87
 refine Lo (Ld (Lm (Lt (La (Dz ?_)))))
 refine aw.again ?_
 refine En (Ls (La (Lt (Ls (LT (Lk (Lt (Ls (Lb (Dz ?_))))))))))
 refine aE.aV [0,0,2,6,14,0,32,126,255,511,1023] (.rd 0 (.rd 1 (.rd 2 (.rd 3 (.rd 4 (.ef 5 (.ef 6 (.ef 7 (.rd 8 (.rd 9 (.ef 10 .done))))))))))) zk zk ai zk hs87 ?_
 intro w88 hs89 hw90
 refine Zj (Hl 4 10 13 hs89 Hz) ?_
 refine aF Tryz.call91 (eR hs89) ?_
 rintro v96 w97 ⟨pp91,eb92,ec93,vm94,rfl,hs95⟩
 refine⟨bw (n:=[.cell ⟨b19,13,none⟩ (.slice ad84 ((((([]:List (Nat×Nat))++([((pp25,0):(Nat×Nat))]))++([((pp47,0):(Nat×Nat))]))++([((pp69,0):(Nat×Nat))])).length) c85)]) zk (aG (hs95.cell 12 rfl zk) av),?_⟩
 refine ar.aW rfl zk (t:=185) (e:=188) (n:=1) (ps:=[(0,zP pp91 0)]) zk zk (ti:=Tryz.t188) (z:=.pointer none) zk zk zf zf (cs:=#[zP pp91 0]) zk hs95 ?_
 intro b98 w99 hs100 hz101
 have hs102:St w0 (Sl (some ⟨b98,0,none⟩) 1 188 1 cO ([((pp91,0):(Nat×Nat))])::ah pp91 #[.int .u64 0,zL eb92 0 1 ec93,.map (some vm94)] 251::Sl (some ⟨eb92,0,none⟩) ec93 31 1 bG ([(0:Int)])::Sl ad84 c85 188 1 cO (((([]:List (Nat×Nat))++([((pp25,0):(Nat×Nat))]))++([((pp47,0):(Nat×Nat))]))++([((pp69,0):(Nat×Nat))]))::Sl (some ⟨b76,0,none⟩) 1 188 1 cO ([((pp69,0):(Nat×Nat))])::ah pp69 #[.int .u64 0,zL eb70 0 1 ec71,.map (some vm72)] 251::Sl (some ⟨eb70,0,none⟩) ec71 31 1 bG ([(0:Int)])::Sl (some ⟨b54,0,none⟩) 1 188 1 cO ([((pp47,0):(Nat×Nat))])::ah pp47 #[.int .u64 0,zL eb48 0 1 ec49,.map (some vm50)] 251::Sl (some ⟨eb48,0,none⟩) ec49 31 1 bG ([(0:Int)])::Sl (some ⟨b32,0,none⟩) 1 188 1 cO ([((pp25,0):(Nat×Nat))])::ah pp25 #[.int .u64 0,zL eb26 0 1 ec27,.map (some vm28)] 251::Sl (some ⟨eb26,0,none⟩) ec27 31 1 bG ([(0:Int)])::ah b19 #[.int .i64 5,.int .u64 0,.int .u64 0,.int .u64 0,.int .u64 0,.int .u64 0,.int .u64 0,.int .u64 0,.int .u64 0,.int .u64 0,.int .u64 0,.int .u64 0,.map (some r4),.slice ad84 ((((([]:List (Nat×Nat))++([((pp25,0):(Nat×Nat))]))++([((pp47,0):(Nat×Nat))]))++([((pp69,0):(Nat×Nat))])).length) c85,zL b15 0 5 5] 187::Sl (some ⟨b15,0,none⟩) 5 306 1 fM.cells ([bK,bK,bK,bK,bK])::bC kA gW r4 (dj ([]) 0 b10)::ah b10 #[.int .u64 0,.int .i64 0,.slice none 0 0,.slice none 0 0,.map (some r7)] 182::bC lE lF r7 ([])::L) w99:=St.ey (l:=[((pp91,0):(Nat×Nat))]) (f:=cO) hs100 hz101 gm.size zh zk
 refine⟨bw (n:=[.cell ⟨b19,13,none⟩ (.slice ad84 ((((([]:List (Nat×Nat))++([((pp25,0):(Nat×Nat))]))++([((pp47,0):(Nat×Nat))]))++([((pp69,0):(Nat×Nat))])).length) c85)]) zk (aG (hs102.cell 13 rfl zk) av),?_⟩
 have hs105:=hs102.pl 3
 refine ar.append rfl zk mM gm (ad:=ad84) (c:=c85) (xs:=((([]:List (Nat×Nat))++([((pp25,0):(Nat×Nat))]))++([((pp47,0):(Nat×Nat))]))++([((pp69,0):(Nat×Nat))])) (ys:=[((pp91,0):(Nat×Nat))]) (adx:=some ⟨b98,0,none⟩) (cx:=1) (0,0) zk hs105 (hs105.rows 1 rfl gm.size (0,0)) (λh=>nomatch h) zg zg ?_
 intro ad106 c107 w103 hs104
 refine Lo (Lu (Dz ?_))
 refine Zv (b:=b19) (off:=13) (v:=.slice ad106 (((((([]:List (Nat×Nat))++([((pp25,0):(Nat×Nat))]))++([((pp47,0):(Nat×Nat))]))++([((pp69,0):(Nat×Nat))]))++([((pp91,0):(Nat×Nat))])).length) c107) (ti:=Tryz.t185) zk hs104 13 (cs':=#[.int .i64 5,.int .u64 0,.int .u64 0,.int .u64 0,.int .u64 0,.int .u64 0,.int .u64 0,.int .u64 0,.int .u64 0,.int .u64 0,.int .u64 0,.int .u64 0,.map (some r4),.slice ad106 (((((([]:List (Nat×Nat))++([((pp25,0):(Nat×Nat))]))++([((pp47,0):(Nat×Nat))]))++([((pp69,0):(Nat×Nat))]))++([((pp91,0):(Nat×Nat))])).length) c107,zL b15 0 5 5]) ?_
 intro w108 hs109
 refine Lo (Ld (Lm (Lt (La (Dz ?_)))))
 refine aw.again ?_
 refine En (Ls (La (Lt (Ls (LT (Lk (Lt (Ls (Lb (Dz ?_))))))))))
 refine aE.aV [0,0,2,6,14,0,32,126,255,511,1023] (.rd 0 (.rd 1 (.rd 2 (.rd 3 (.rd 4 (.ef 5 (.ef 6 (.ef 7 (.rd 8 (.rd 9 (.ef 10 .done))))))))))) zk zk ai zk hs109 ?_
 intro w110 hs111 hw112
 refine Zj (Hl 4 13 13 hs111 Hz) ?_
 refine aF Tryz.call91 (eR hs111) ?_
 rintro v118 w119 ⟨pp113,eb114,ec115,vm116,rfl,hs117⟩
 refine⟨bw (n:=[.cell ⟨b19,13,none⟩ (.slice ad106 (((((([]:List (Nat×Nat))++([((pp25,0):(Nat×Nat))]))++([((pp47,0):(Nat×Nat))]))++([((pp69,0):(Nat×Nat))]))++([((pp91,0):(Nat×Nat))])).length) c107)]) zk (aG (hs117.cell 15 rfl zk) av),?_⟩
 refine ar.aW rfl zk (t:=185) (e:=188) (n:=1) (ps:=[(0,zP pp113 0)]) zk zk (ti:=Tryz.t188) (z:=.pointer none) zk zk zf zf (cs:=#[zP pp113 0]) zk hs117 ?_
 intro b120 w121 hs122 hz123
 have hs124:St w0 (Sl (some ⟨b120,0,none⟩) 1 188 1 cO ([((pp113,0):(Nat×Nat))])::ah pp113 #[.int .u64 0,zL eb114 0 1 ec115,.map (some vm116)] 251::Sl (some ⟨eb114,0,none⟩) ec115 31 1 bG ([(0:Int)])::Sl ad106 c107 188 1 cO ((((([]:List (Nat×Nat))++([((pp25,0):(Nat×Nat))]))++([((pp47,0):(Nat×Nat))]))++([((pp69,0):(Nat×Nat))]))++([((pp91,0):(Nat×Nat))]))::Sl (some ⟨b98,0,none⟩) 1 188 1 cO ([((pp91,0):(Nat×Nat))])::ah pp91 #[.int .u64 0,zL eb92 0 1 ec93,.map (some vm94)] 251::Sl (some ⟨eb92,0,none⟩) ec93 31 1 bG ([(0:Int)])::Sl (some ⟨b76,0,none⟩) 1 188 1 cO ([((pp69,0):(Nat×Nat))])::ah pp69 #[.int .u64 0,zL eb70 0 1 ec71,.map (some vm72)] 251::Sl (some ⟨eb70,0,none⟩) ec71 31 1 bG ([(0:Int)])::Sl (some ⟨b54,0,none⟩) 1 188 1 cO ([((pp47,0):(Nat×Nat))])::ah pp47 #[.int .u64 0,zL eb48 0 1 ec49,.map (some vm50)] 251::Sl (some ⟨eb48,0,none⟩) ec49 31 1 bG ([(0:Int)])::Sl (some ⟨b32,0,none⟩) 1 188 1 cO ([((pp25,0):(Nat×Nat))])::ah pp25 #[.int .u64 0,zL eb26 0 1 ec27,.map (some vm28)] 251::Sl (some ⟨eb26,0,none⟩) ec27 31 1 bG ([(0:Int)])::ah b19 #[.int .i64 5,.int .u64 0,.int .u64 0,.int .u64 0,.int .u64 0,.int .u64 0,.int .u64 0,.int .u64 0,.int .u64 0,.int .u64 0,.int .u64 0,.int .u64 0,.map (some r4),.slice ad106 (((((([]:List (Nat×Nat))++([((pp25,0):(Nat×Nat))]))++([((pp47,0):(Nat×Nat))]))++([((pp69,0):(Nat×Nat))]))++([((pp91,0):(Nat×Nat))])).length) c107,zL b15 0 5 5] 187::Sl (some ⟨b15,0,none⟩) 5 306 1 fM.cells ([bK,bK,bK,bK,bK])::bC kA gW r4 (dj ([]) 0 b10)::ah b10 #[.int .u64 0,.int .i64 0,.slice none 0 0,.slice none 0 0,.map (some r7)] 182::bC lE lF r7 ([])::L) w121:=St.ey (l:=[((pp113,0):(Nat×Nat))]) (f:=cO) hs122 hz123 gm.size zh zk
 refine⟨bw (n:=[.cell ⟨b19,13,none⟩ (.slice ad106 (((((([]:List (Nat×Nat))++([((pp25,0):(Nat×Nat))]))++([((pp47,0):(Nat×Nat))]))++([((pp69,0):(Nat×Nat))]))++([((pp91,0):(Nat×Nat))])).length) c107)]) zk (aG (hs124.cell 16 rfl zk) av),?_⟩
 have hs127:=hs124.pl 3
 refine ar.append rfl zk mM gm (ad:=ad106) (c:=c107) (xs:=(((([]:List (Nat×Nat))++([((pp25,0):(Nat×Nat))]))++([((pp47,0):(Nat×Nat))]))++([((pp69,0):(Nat×Nat))]))++([((pp91,0):(Nat×Nat))])) (ys:=[((pp113,0):(Nat×Nat))]) (adx:=some ⟨b120,0,none⟩) (cx:=1) (0,0) zk hs127 (hs127.rows 1 rfl gm.size (0,0)) (λh=>nomatch h) zg zg ?_
 intro ad128 c129 w125 hs126
 refine Lo (Lu (Dz ?_))
 refine Zv (b:=b19) (off:=13) (v:=.slice ad128 ((((((([]:List (Nat×Nat))++([((pp25,0):(Nat×Nat))]))++([((pp47,0):(Nat×Nat))]))++([((pp69,0):(Nat×Nat))]))++([((pp91,0):(Nat×Nat))]))++([((pp113,0):(Nat×Nat))])).length) c129) (ti:=Tryz.t185) zk hs126 16 (cs':=#[.int .i64 5,.int .u64 0,.int .u64 0,.int .u64 0,.int .u64 0,.int .u64 0,.int .u64 0,.int .u64 0,.int .u64 0,.int .u64 0,.int .u64 0,.int .u64 0,.map (some r4),.slice ad128 ((((((([]:List (Nat×Nat))++([((pp25,0):(Nat×Nat))]))++([((pp47,0):(Nat×Nat))]))++([((pp69,0):(Nat×Nat))]))++([((pp91,0):(Nat×Nat))]))++([((pp113,0):(Nat×Nat))])).length) c129,zL b15 0 5 5]) ?_
 intro w130 hs131
 refine Lo (Ld (Lm (Lt (La (Dz ?_)))))
 refine aw.again ?_
 refine En (Ls (La (Lt (Ls (LF (Lx (gv (gw (Lh (Lt (Ls (La (Lt (Le (Dz ?_)))))))))))))))
 refine jE (v:=zP b19 0) (v':=.int .i64 0) ?_
 obtain⟨ab132,rfl⟩:=Sl.isSome (hs131.at_ 0 rfl) (Nat.succ_pos 4)
 have hs133:=St.bW hs131 308 2 dG.cells
 have hs134:St w0 (Sl none 0 308 2 dG.cells ([]:List dG)::Sl (some ⟨ab132,0,none⟩) c129 188 1 cO ([(pp25,0),(pp47,0),(pp69,0),(pp91,0),(pp113,0)])::Sl (some ⟨b120,0,none⟩) 1 188 1 cO ([((pp113,0):(Nat×Nat))])::ah pp113 #[.int .u64 0,zL eb114 0 1 ec115,.map (some vm116)] 251::Sl (some ⟨eb114,0,none⟩) ec115 31 1 bG ([(0:Int)])::Sl (some ⟨b98,0,none⟩) 1 188 1 cO ([((pp91,0):(Nat×Nat))])::ah pp91 #[.int .u64 0,zL eb92 0 1 ec93,.map (some vm94)] 251::Sl (some ⟨eb92,0,none⟩) ec93 31 1 bG ([(0:Int)])::Sl (some ⟨b76,0,none⟩) 1 188 1 cO ([((pp69,0):(Nat×Nat))])::ah pp69 #[.int .u64 0,zL eb70 0 1 ec71,.map (some vm72)] 251::Sl (some ⟨eb70,0,none⟩) ec71 31 1 bG ([(0:Int)])::Sl (some ⟨b54,0,none⟩) 1 188 1 cO ([((pp47,0):(Nat×Nat))])::ah pp47 #[.int .u64 0,zL eb48 0 1 ec49,.map (some vm50)] 251::Sl (some ⟨eb48,0,none⟩) ec49 31 1 bG ([(0:Int)])::Sl (some ⟨b32,0,none⟩) 1 188 1 cO ([((pp25,0):(Nat×Nat))])::ah pp25 #[.int .u64 0,zL eb26 0 1 ec27,.map (some vm28)] 251::Sl (some ⟨eb26,0,none⟩) ec27 31 1 bG ([(0:Int)])::ah b19 #[.int .i64 5,.int .u64 0,.int .u64 ((0:Nat):Nat),.int .u64 0,.int .u64 0,.int .u64 0,.int .u64 0,.int .u64 0,.int .u64 0,.int .u64 0,.int .u64 0,.int .u64 0,.map (some r4),zL ab132 0 5 c129,zL b15 0 5 5] 187::Sl (some ⟨b15,0,none⟩) 5 306 1 fM.cells ([bK,(⟨none,0,([]:List dG)⟩:fM),bK,bK,bK])::bC kA gW r4 ([((0:Int),b10)])::ah b10 #[.int .u64 0,.int .i64 0,.slice none 0 0,.slice none 0 0,.map (some r7)] 182::bC lE lF r7 ([])::L) w130:=hs133
 have hs135:=(((((((hs134.pl 20).pl 20).pl 15).pl 15).pl 5).pl 5).pl 20).pl 20
 have hs136:St w0 (LG b19 0 (⟨r4,b10,r7,ab132,c129,b15,5,pp47,(pp25,0),(pp69,0),(pp91,0),(pp113,0),none,0,([]:List dG),0,eb48,ec49,vm50⟩)::Sl (some ⟨b120,0,none⟩) 1 188 1 cO ([((pp113,0):(Nat×Nat))])::ah pp113 #[.int .u64 0,zL eb114 0 1 ec115,.map (some vm116)] 251::Sl (some ⟨eb114,0,none⟩) ec115 31 1 bG ([(0:Int)])::Sl (some ⟨b98,0,none⟩) 1 188 1 cO ([((pp91,0):(Nat×Nat))])::ah pp91 #[.int .u64 0,zL eb92 0 1 ec93,.map (some vm94)] 251::Sl (some ⟨eb92,0,none⟩) ec93 31 1 bG ([(0:Int)])::Sl (some ⟨b76,0,none⟩) 1 188 1 cO ([((pp69,0):(Nat×Nat))])::ah pp69 #[.int .u64 0,zL eb70 0 1 ec71,.map (some vm72)] 251::Sl (some ⟨eb70,0,none⟩) ec71 31 1 bG ([(0:Int)])::Sl (some ⟨b54,0,none⟩) 1 188 1 cO ([((pp47,0):(Nat×Nat))])::Sl (some ⟨b32,0,none⟩) 1 188 1 cO ([((pp25,0):(Nat×Nat))])::ah pp25 #[.int .u64 0,zL eb26 0 1 ec27,.map (some vm28)] 251::Sl (some ⟨eb26,0,none⟩) ec27 31 1 bG ([(0:Int)])::bC lE lF r7 ([])::L) w130:=Bd.close ⟨⟨Int.le_refl 0,show(0:Int)<18446744073709551616 by decide⟩,Nat.zero_le _⟩ hs135
 have hs137:=((((((((((((((hs136.pl 0).pl 14).pl 14).pl 14).pl 14).pl 14).pl 14).pl 14).pl 14).pl 14).pl 14).pl 14).pl 14).pl 14).pl 14
 have hs138:=hs137.dr 14
 exact⟨b19,⟨r4,b10,r7,ab132,c129,b15,5,pp47,(pp25,0),(pp69,0),(pp91,0),(pp113,0),none,0,([]:List dG),0,eb48,ec49,vm50⟩,rfl,hs138⟩
structure gU where
 og:Int
 nk:Int
deriving DecidableEq
def gU.cells (x:gU):Array Value:=#[.int .i64 x.og,.int .u64 x.nk]
abbrev EV:gU:=⟨0,0⟩
theorem EE (a b:gU):dv Tryz.prog 2 268 (.agg a.cells) (.agg b.cells)=decide (a=b):=by
 have h:dv Tryz.prog 2 268 (.agg a.cells) (.agg b.cells)=(a.og == b.og && (a.nk == b.nk && true)):=zk
 rw [h,ib,ib,Bool.and_true]
 obtain⟨a0,a1⟩:=a
 obtain⟨b0,b1⟩:=b
 simp only [gU.mk.injEq,Bool.decide_and]
abbrev iP:gU->Value:=λk=>.agg (gU.cells k)
abbrev wa:aO->Value:=λd=>.agg (aO.cells d)
theorem Ba (a b:gU) (w:World):(Op.equal 268 (iP a) (iP b)).run Tryz.prog w=.ok (decide (a=b)) w:=by
 have h:=iq (P:=Tryz.prog) 2 268 (iP a) (iP b) 9998 w zk
 rw [EE] at h
 exact h
theorem Cy:dI Tryz.prog 190 iP wa 268 34 :=
 dI.ask zk (d:=.struct (Tryz.prog.fieldsOf 268)) zk (λa b=>rfl) Ba (λa=>by simp [Instr.sameBits,iP,gU.cells]) (λem a w=>rfl)
theorem fT {w0 w:World}{L:List aI}(hs:St w0 L w):Calls Tryz.prog 40 #[] w (aZ λrv w'=>∃ (wt:Nat),rv=zP wt 0/\St w0 L w'):=by
 refine bp Tryz.func40 Tryz.ntmps40 ?_
 refine En (Ls (La (Lt (Ls (Lg [0,2] (Dz ?_))))))
 refine ar.makeMap (α:=Int) (β:=Int) rfl rfl zk kA mI hs ?_
 intro r1 w2 hs3
 refine Lo (Lu (Dz ?_))
 refine ar.box rfl rfl zk (v:=.agg #[.map (some r1)]) zk hs3 (cs:=#[.map (some r1)]) zk ?_
 intro b4 w5 hs6
 refine Lo (aL (Lt (Le (Dz ?_))))
 refine bg (v:=zP b4 0) ?_
 have hs7:=hs6.dr 2
 exact⟨b4,rfl,hs7⟩
theorem we {w0 w:World}{L:List aI}(hs:St w0 L w):Calls Tryz.prog 126 #[] w (aZ λrv w'=>∃ (ld:Nat),rv=zP ld 0/\St w0 L w'):=by
 refine bp Tryz.func126 Tryz.ntmps126 ?_
 refine En (Ls (La (Lt (Ls (Lg [0,2] (Dz ?_))))))
 refine ar.makeMap (α:=Int) (β:=Int) rfl rfl zk kA mI hs ?_
 intro r1 w2 hs3
 refine Lo (Lu (Dz ?_))
 refine ar.box rfl rfl zk (v:=.agg #[.map (some r1)]) zk hs3 (cs:=#[.map (some r1)]) zk ?_
 intro b4 w5 hs6
 refine Lo (aL (Lt (Le (Dz ?_))))
 refine bg (v:=zP b4 0) ?_
 have hs7:=hs6.dr 2
 exact⟨b4,rfl,hs7⟩
theorem wg {w0 w:World}{L:List aI}(hs:St w0 L w):Calls Tryz.prog 127 #[] w (aZ λrv w'=>∃ (sn:Nat),rv=zP sn 0/\St w0 L w'):=by
 refine bp Tryz.func127 Tryz.ntmps127 ?_
 refine En (Ls (La (Lt (Ls (Lg [1] (Lu (Dz ?_)))))))
 refine ar.box rfl rfl zk (v:=.agg Dq) zk hs (cs:=Dq) zk ?_
 intro b1 w2 hs3
 refine Lo (aL (Lt (Le (Dz ?_))))
 refine bg (v:=zP b1 0) ?_
 have hs4:=hs3.dr 1
 exact⟨b1,rfl,hs4⟩
theorem wi {w0 w:World}{L:List aI}(hs:St w0 L w):Calls Tryz.prog 88 #[] w (aZ λrv w'=>∃ (sa:Nat),rv=zP sa 0/\St w0 L w'):=by
 refine bp Tryz.func88 Tryz.ntmps88 ?_
 refine En (Ls (La (Lt (Ls (Lg [0,1,3] (Dz ?_))))))
 refine aF Tryz.call126 (we hs) ?_
 rintro v3 w4 ⟨ld1,rfl,hs2⟩
 refine Lo (Dz ?_)
 refine aF Tryz.call127 (wg hs2) ?_
 rintro v7 w8 ⟨sn5,rfl,hs6⟩
 refine Lo (Lu (Dz ?_))
 refine ar.box rfl rfl zk (v:=.agg #[zP ld1 0,zP sn5 0,.int .u64 0]) zk hs6 (cs:=#[zP ld1 0,zP sn5 0,.int .u64 0]) zk ?_
 intro b9 w10 hs11
 refine Lo (aL (Lt (Le (Dz ?_))))
 refine bg (v:=zP b9 0) ?_
 have hs12:=hs11.dr 1
 exact⟨b9,rfl,hs12⟩
theorem ew {w0 w:World}{L:List aI}(hs:St w0 L w):Calls Tryz.prog 41 #[] w (aZ λrv w'=>∃ (rn:Nat),rv=zP rn 0/\St w0 L w'):=by
 refine bp Tryz.func41 Tryz.ntmps41 ?_
 refine En (Ls (La (Lt (Ls (Lg [0,1,3] (Dz ?_))))))
 refine aF Tryz.call88 (wi hs) ?_
 rintro v3 w4 ⟨sa1,rfl,hs2⟩
 refine Lo (Dz ?_)
 refine ar.makeMap (α:=Int) (β:=Int) rfl rfl zk kA mI hs2 ?_
 intro r5 w6 hs7
 refine Lo (Lu (Dz ?_))
 refine ar.box rfl rfl zk (v:=.agg #[.slice none 0 0,zP sa1 0,.slice none 0 0,.map (some r5)]) zk hs7 (cs:=#[.slice none 0 0,zP sa1 0,.slice none 0 0,.map (some r5)]) zk ?_
 intro b8 w9 hs10
 refine Lo (aL (Lt (Le (Dz ?_))))
 refine bg (v:=zP b8 0) ?_
 have hs11:=hs10.dr 2
 exact⟨b8,rfl,hs11⟩
theorem cR {w0 w:World}{L:List aI}(hs:St w0 L w):Calls Tryz.prog 42 #[] w (aZ λrv w'=>∃ (wc:Nat),rv=zP wc 0/\St w0 L w'):=by
 refine bp Tryz.func42 Tryz.ntmps42 ?_
 refine En (Ls (La (Lt (Ls (Lg [1] (Lu (Dz ?_)))))))
 refine ar.box rfl rfl zk (v:=.agg #[.int .u64 16,.bool false,.int .u64 0,.int .u64 0,.int .u64 0]) zk hs (cs:=#[.int .u64 16,.bool false,.int .u64 0,.int .u64 0,.int .u64 0]) zk ?_
 intro b1 w2 hs3
 refine Lo (aL (Lt (Le (Dz ?_))))
 refine bg (v:=zP b1 0) ?_
 have hs4:=hs3.dr 1
 exact⟨b1,rfl,hs4⟩
theorem wj {w0 w:World}{L:List aI}(n:Int) (hn:(n=3\/n=5)) (hs:St w0 L w):Calls Tryz.prog 48 #[.int .i64 n] w (aZ λrv w'=>∃ (cp:Nat) (cr:Nat),rv=.tuple #[zP cp 0,.int .i64 0]/\St w0 (ah cp #[.int .i64 n,.map (some cr)] 192::bC iP wa cr ([]:List (gU×aO))::L) w'):=by
 refine bp Tryz.func48 Tryz.ntmps48 ?_
 refine En (Ls (La (Lt (Ls (Ls (Dz ?_))))))
 refine aE.join (T:=Unit) (E:=λ_=>[(14,.bool (((decide ((n:Int)<3)) || (decide ((n:Int)>11))) || (((n % 2):Int) == 0))),(3,.int .i64 0),(2,.pointer none),(0,.int .i64 n)]) (F:=λ_ w=>St w0 L w) ?_ ?_
 ·refine Zg [] ?_
  refine Zr 0 3 [] ?_
  rcases Bool.eq_false_or_eq_true (decide ((n:Int)<3)) with h1|h1
  ·refine di 6 true h1 ?_
   have h1':(n:Int)<3:=of_decide_eq_true h1
   exfalso;have hz:=h1;first|omega|(rcases hn with rfl|rfl<;>simp at hz)
  ·refine di 6 false h1 ?_
   have h1':¬ ((n:Int)<3):=of_decide_eq_false h1
   refine Zr 3 4 [] ?_
   rcases Bool.eq_false_or_eq_true (decide ((n:Int)>11)) with h2|h2
   ·refine di 10 true h2 ?_
    have h2':(n:Int)>11:=of_decide_eq_true h2
    exfalso;have hz:=h2;first|omega|(rcases hn with rfl|rfl<;>simp at hz)
   ·refine di 10 false h2 ?_
    have h2':¬ ((n:Int)>11):=of_decide_eq_false h2
    refine gY (Hg 8 (.div (n % 2)) [.prop (IntKind.i64=IntKind.i64/\(2:Int)≠0/\Int.tmod n 2=n % 2)] (aB ⟨rfl,zf,Int.tmod_eq_emod_of_nonneg (by first|omega|exact Int.natCast_nonneg _)⟩ av) Hz) ?_
    refine aw.pick [14,3,2,0] (S':=[(14,.bool (((n % 2):Int) == 0)),(3,.int .i64 0),(2,.pointer none),(0,.int .i64 n)]) zk ?_
    exact aw.bD () (by first|rfl|(simp only [h1,h2,Bool.not_true,Bool.not_false,Bool.true_or,Bool.false_or,Bool.true_and,Bool.false_and,Bool.or_true,Bool.or_false,Bool.and_true,Bool.and_false];done)|(simp [h1,h2];done)) hs
 intro _ w3 hs4
 refine Zt (?_)
 refine cS (t:=((decide ((n:Int)<3)) || (decide ((n:Int)>11))) || (((n % 2):Int) == 0)) (λh5=>?_) (λh5=>?_)
 ·exfalso;have hz:=h5;first|omega|(rcases hn with rfl|rfl<;>simp at hz)
 ·have h5a:((decide ((n:Int)<3)) || (decide ((n:Int)>11)))=false:=(Bool.or_eq_false_iff.1 h5).1
  have h5aa:(decide ((n:Int)<3))=false:=(Bool.or_eq_false_iff.1 h5a).1
  have h5aa':¬ ((n:Int)<3):=of_decide_eq_false h5aa
  have h5ab:(decide ((n:Int)>11))=false:=(Bool.or_eq_false_iff.1 h5a).2
  have h5ab':¬ ((n:Int)>11):=of_decide_eq_false h5ab
  have h5b:(((n % 2):Int) == 0)=false:=(Bool.or_eq_false_iff.1 h5).2
  have h5b':¬ ((n % 2:Int)=0):=dH h5b
  refine En (Lk (Lt (Ls (Lg [1,3] (Lu (Dz ?_))))))
  refine ar.makeMap (α:=gU) (β:=aO) rfl rfl zk iP wa hs4 ?_
  intro r6 w7 hs8
  refine Lo (Lu (Dz ?_))
  refine ar.box rfl rfl zk (v:=.agg #[.int .i64 n,.map (some r6)]) zk hs8 (cs:=#[.int .i64 n,.map (some r6)]) zk ?_
  intro b9 w10 hs11
  refine Lo (aL (Lt (Le (Dz ?_))))
  refine jE (v:=zP b9 0) (v':=.int .i64 0) ?_
  exact⟨b9,r6,rfl,hs11⟩
theorem tT {w0 w:World}{L:List aI}{cp:Nat}{cr:Nat}(k:Nat) (bd:aK) (tg:aO) (cm:List (gU×aO)) (hm:fa (⟨2,((k:Nat)+1),aA k,bd,tg⟩:an)) (hmay:cZ (⟨2,((k:Nat)+1),aA k,bd,tg⟩:an)=true) (hq5:(bd.ql.any (λq=>decide ((q.rp:Int)>5)))=false) (hqs:Nn bd.qa bd.qc) (hr:∀ w,St w0 L w->ag w bd.qa bd.ql.length 2 (λk=>aT.cells (bd.ql.getD k aR))) (hs:St w0 (ah cp #[.int .i64 5,.map (some cr)] 192::bC iP wa cr cm::L) w):Calls Tryz.prog 104 #[zP cp 0,.agg (an.cells (⟨2,((k:Nat)+1),aA k,bd,tg⟩:an))] w (aZ λrv w'=>∃ (ob2:Bool) (cm2:List (gU×aO)),rv=.bool ob2/\St w0 (ah cp #[.int .i64 5,.map (some cr)] 192::bC iP wa cr cm2::L) w'):=by
 refine bp Tryz.func104 Tryz.ntmps104 ?_
 refine En (Ls (Lg [0] (Dz ?_)))
 refine ar.box rfl rfl zk (v:=.agg (an.cells (⟨2,((k:Nat)+1),aA k,bd,tg⟩:an))) zk hs (cs:=an.cells (⟨2,((k:Nat)+1),aA k,bd,tg⟩:an)) zk ?_
 intro b1 w2 hs3
 refine Lo (aL (Lt (Ls (Ls (Dz ?_)))))
 refine aE.aV [0,1,3,7,15,31,63,127,255,511,255,1279,3327,7423,16383,32767,65535,131071,262143,524287,1048575,2097151] (.rd 0 (.rd 1 (.rd 2 (.rd 3 (.ef 4 (.rd 5 (.rd 6 (.rd 7 (.rd 8 (.rd 9 (.rd 10 (.rd 11 (.rd 12 (.rd 13 (.rd 14 (.rd 15 (.rd 16 (.rd 17 (.rd 18 (.rd 19 (.rd 20 (.rd 21 .done)))))))))))))))))))))) zk zk ai zk hs3 ?_
 intro w4 hs5 hw6
 refine Zj (du 3 0 0 121 (an.cells (⟨2,((k:Nat)+1),aA k,bd,tg⟩:an)) hs5 Hz) ?_
 refine aF (f:=28) (args:=#[.agg (an.cells (⟨2,((k:Nat)+1),aA k,bd,tg⟩:an))]) Tryz.call28 (gM (⟨2,((k:Nat)+1),aA k,bd,tg⟩:an) hm (λw h=>hr _ (h.drop 3)) hs5) ?_
 rintro v8 w9 ⟨rfl,hs7⟩
 refine Lo (Dz ?_)
 refine Zr 5 3 [] ?_
 refine di 15 false (congrArg not hmay) ?_
 refine gY (Hl 9 0 0 hs7 (Hl 13 1 0 hs7 (Hl 19 0 13 hs7 Hz))) ?_
 refine Zt (?_)
 refine cS (t:=(bd.kd:Int) != 6) (λh10=>?_) (λh10=>?_)
 ·have h10':¬ ((bd.kd:Int)=6):=jb h10
  refine En (Ls (La (Lt (Le (Ly (Dz ?_))))))
  refine bg (v:=.bool false) ?_
  have hs11:=hs7.dr 1
  exact⟨false,cm,rfl,hs11⟩
 ·have h10':(bd.kd:Int)=6:=iF h10
  refine Zk (Zt (Zs (?_)))
  refine bL [6,7] (Hl 1 0 0 hs7 (Hl 4 0 15 hs7 Hz)) ?_
  refine ar.alloc rfl rfl zk (z:=.agg (gU.cells EV)) zk hs7 (cs:=gU.cells EV) zk ?_
  intro b12 w13 hs14
  refine Lo (Dz ?_)
  refine Zv (b:=b12) (off:=0) (v:=.agg (gU.cells (⟨2,bd.k⟩:gU))) (ti:=Tryz.t268) zk hs14 0 (cs':=gU.cells (⟨2,bd.k⟩:gU)) ?_
  intro w15 hs16
  refine Lo (Ld (Lt (Ls (Ls (Dz ?_)))))
  refine aE.aV [0,1,3,7,0,31,63,127,127,0,767,2047] (.rd 0 (.rd 1 (.rd 2 (.rd 3 (.rd 4 (.rd 5 (.rd 6 (.rd 7 (.rd 8 (.ef 9 (.ef 10 (.rd 11 .done)))))))))))) zk zk ai zk hs16 ?_
  intro w17 hs18 hw19
  refine Zp 0 5 [(3,.gen [.map (some cr)]),(4,.agg (gU.cells (⟨2,bd.k⟩:gU)))] [(3,[.cell ⟨cp,1,none⟩ (.map (some cr))]),(4,[.prop (Array.size (gU.cells (⟨2,bd.k⟩:gU))=2),.cells ⟨b12,0,none⟩ (gU.cells (⟨2,bd.k⟩:gU))])] (ak (aG (hs18.cell 2 rfl zk) av) (ak (aB zk (dq (hs18.cells 0 0 rfl zk) av)) cW)) ?_
  refine ar.lookup rfl zk Cy (r:=cr) (k:=(⟨2,bd.k⟩:gU)) (ok:=true) zk hs18 3 rfl (z:=wa aH) zk (v:=.tuple #[.agg (aO.cells ((cT cm (⟨2,bd.k⟩:gU)).getD aH)),.bool ((cT cm (⟨2,bd.k⟩:gU)).isSome)]) (CJ _ _ _) ?_
  refine En (Lu (Dz ?_))
  refine ar.alloc rfl rfl zk (z:=.agg (aO.cells aH)) zk hs18 (cs:=aO.cells aH) zk ?_
  intro b20 w21 hs22
  refine⟨bw (n:=[.holds (bC iP wa cr cm).holds,.prop (Array.size (gU.cells (⟨2,bd.k⟩:gU))=2),.cells ⟨b12,0,none⟩ (gU.cells (⟨2,bd.k⟩:gU)),.cell ⟨cp,1,none⟩ (.map (some cr))]) zk (Ch (hs22.at_ 4 rfl) (aB zk (dq (hs22.cells 1 0 rfl zk) (aG (hs22.cell 3 rfl zk) av)))),?_⟩
  refine Zv (b:=b20) (off:=0) (v:=.agg (aO.cells ((cT cm (⟨2,bd.k⟩:gU)).getD aH))) (ti:=Tryz.t34) zk hs22 0 (cs':=aO.cells ((cT cm (⟨2,bd.k⟩:gU)).getD aH)) ?_
  intro w23 hs24
  refine Lo (aL (Lt (Ls (La (Lt (Dz ?_))))))
  refine cS (t:=(cT cm (⟨2,bd.k⟩:gU)).isSome) (λh25=>?_) (λh25=>?_)
  ·refine En (Ls (La (Lt (Le (Ly (Dz ?_))))))
   refine bg (v:=.bool false) ?_
   have hs26:=hs24.dr 3
   exact⟨false,cm,rfl,hs26⟩
  ·refine Zk (Zt (Zs (?_)))
   refine aE.aV [0,1,3,7,0,0,32,96,255] (.rd 0 (.rd 1 (.rd 2 (.rd 3 (.rd 4 (.rd 5 (.rd 6 (.rd 7 (.ef 8 .done))))))))) zk zk ai zk hs24 ?_
   intro w27 hs28 hw29
   refine Zj (Hl 3 3 1 hs28 (du 4 1 0 2 (gU.cells (⟨2,bd.k⟩:gU)) hs28 (du 7 2 57 32 (aO.cells bd.dg) hs28 Hz))) ?_
   refine ar.mapUpdate rfl zk Cy (r:=cr) (k:=(⟨2,bd.k⟩:gU)) (v:=bd.dg) zk hs28 4 rfl ?_
   intro w30 hs31
   refine Lo (Ld (Lt (Ls (La (Lt (Le (Dz ?_)))))))
   refine bg (v:=.bool true) ?_
   have hs32:=((((hs31.pl 0).pl 4).pl 4).pl 4).pl 4
   have hs33:=hs32.dr 3
   exact⟨true,dj cm (⟨2,bd.k⟩:gU) bd.dg,rfl,hs33⟩
theorem wk {w0 w:World}{L:List aI}(n:Int) (hn:(n=3\/n=5)) (hs:St w0 L w):Calls Tryz.prog 50 #[.int .i64 n] w (aZ λrv w'=>∃ (gp:Nat),rv=.tuple #[zP gp 0,.int .i64 0]/\St w0 L w'):=by
 refine bp Tryz.func50 Tryz.ntmps50 ?_
 refine En (Ls (La (Lt (Ls (Ls (Lg [1] (Lu (Dz ?_))))))))
 refine aF Tryz.call44 (oP n hn hs) ?_
 rintro v4 w5 ⟨p1,lg2,rfl,hs3⟩
 refine Lo (aL (Lt (Ls (La (Lt (LF (Lk (Lt (Ls (Lg [2] (Lu (Dz ?_))))))))))))
 refine ar.box rfl rfl zk (v:=.agg #[.int .i64 n,.int .u64 0,.int .u64 0,.int .u64 0,.int .u64 0,.int .u64 0,.int .u64 0,.int .u64 0,.int .u64 0,.int .u64 0,.int .u64 0,.int .u64 0,.int .u64 0,.int .u64 0,.int .u64 0,.int .u64 0,.int .u64 0,.int .u64 0,.int .u64 0,.int .u64 0,.int .u64 0,.int .u64 0,.int .u64 0,.int .u64 0,.int .u64 0,.int .u64 0,.int .u64 0,.int .u64 0,.int .u64 0,.int .u64 0,.int .u64 0,.int .u64 0,.int .u64 0,.int .u64 0,.int .u64 0,.int .u64 0,.int .u64 0,.int .u64 0,.int .u64 0,.int .u64 0,.int .u64 0,.int .u64 0,.int .u64 0,.int .u64 0,.int .u64 0,.int .u64 0,.int .u64 0,.int .u64 0,.int .u64 0,.int .u64 0,.int .u64 0,.int .u64 0,.int .u64 0,.int .u64 0,.int .u64 0,.int .u64 0,.int .u64 0,.int .u64 0,.int .u64 0,.int .u64 0,.int .u64 0,.int .u64 0,.int .u64 0,.int .u64 0,.int .u64 0,.int .u64 0,.int .u64 0,.int .u64 0,.int .u64 0,.int .u64 0,.int .u64 0,.int .u64 0,.int .u64 0,.int .u64 0,.int .u64 0,.int .u64 0,.int .u64 0,.int .u64 0,.int .u64 0,.int .u64 0,.int .u64 0,.int .u64 0,.int .u64 0,.int .u64 0,.int .u64 0,.int .u64 0,.int .u64 0,.int .u64 0,.int .u64 0,.int .u64 0,.int .u64 0,.int .u64 0,.int .u64 0,.int .u64 0,.int .u64 0,.int .u64 0,.int .u64 0,.int .u64 0,.int .u64 0,.int .u64 0,.int .u64 0,.int .u64 0,.int .u64 0,.int .u64 0,.int .u64 0,.int .u64 0,.int .u64 0,.int .u64 0,.int .u64 0,.int .u64 0,.int .u64 0,.int .u64 0,.int .u64 0,.int .u64 0,.int .u64 0,.int .u64 0,.int .u64 0,.int .u64 0,.int .u64 0,.int .u64 0,.int .u64 0,.int .u64 0]) zk hs3 (cs:=#[.int .i64 n,.int .u64 0,.int .u64 0,.int .u64 0,.int .u64 0,.int .u64 0,.int .u64 0,.int .u64 0,.int .u64 0,.int .u64 0,.int .u64 0,.int .u64 0,.int .u64 0,.int .u64 0,.int .u64 0,.int .u64 0,.int .u64 0,.int .u64 0,.int .u64 0,.int .u64 0,.int .u64 0,.int .u64 0,.int .u64 0,.int .u64 0,.int .u64 0,.int .u64 0,.int .u64 0,.int .u64 0,.int .u64 0,.int .u64 0,.int .u64 0,.int .u64 0,.int .u64 0,.int .u64 0,.int .u64 0,.int .u64 0,.int .u64 0,.int .u64 0,.int .u64 0,.int .u64 0,.int .u64 0,.int .u64 0,.int .u64 0,.int .u64 0,.int .u64 0,.int .u64 0,.int .u64 0,.int .u64 0,.int .u64 0,.int .u64 0,.int .u64 0,.int .u64 0,.int .u64 0,.int .u64 0,.int .u64 0,.int .u64 0,.int .u64 0,.int .u64 0,.int .u64 0,.int .u64 0,.int .u64 0,.int .u64 0,.int .u64 0,.int .u64 0,.int .u64 0,.int .u64 0,.int .u64 0,.int .u64 0,.int .u64 0,.int .u64 0,.int .u64 0,.int .u64 0,.int .u64 0,.int .u64 0,.int .u64 0,.int .u64 0,.int .u64 0,.int .u64 0,.int .u64 0,.int .u64 0,.int .u64 0,.int .u64 0,.int .u64 0,.int .u64 0,.int .u64 0,.int .u64 0,.int .u64 0,.int .u64 0,.int .u64 0,.int .u64 0,.int .u64 0,.int .u64 0,.int .u64 0,.int .u64 0,.int .u64 0,.int .u64 0,.int .u64 0,.int .u64 0,.int .u64 0,.int .u64 0,.int .u64 0,.int .u64 0,.int .u64 0,.int .u64 0,.int .u64 0,.int .u64 0,.int .u64 0,.int .u64 0,.int .u64 0,.int .u64 0,.int .u64 0,.int .u64 0,.int .u64 0,.int .u64 0,.int .u64 0,.int .u64 0,.int .u64 0,.int .u64 0,.int .u64 0,.int .u64 0,.int .u64 0,.int .u64 0]) zk ?_
 intro b6 w7 hs8
 refine Lo (aL (Lt (Le (Dz ?_))))
 refine jE (v:=zP b6 0) (v':=.int .i64 0) ?_
 have hs9:=hs8.dr 2
 exact⟨b6,rfl,hs9⟩
theorem tU {w0 w:World}{L:List aI}{nb:Nat}{rb:Nat}{eb:Nat}{r:Nat}{wt:Nat}{rn:Nat}{wc:Nat}{i:Int}(n:Int) (hn:(n=3\/n=5)) (hs:St w0 (ah nb #[.int .i64 n] 3::ah rb #[zP r 0] 62::ah eb #[.int .i64 0] 26::ah r #[.int .i64 n,.int .i64 i,.pointer none,zP wt 0,.pointer none,.pointer none,.pointer none,zP rn 0,zP wc 0,.slice none 0 0,.slice none 0 0,.int .u64 0] 112::L) w):Calls Tryz.prog 43 #[zP nb 0,zP rb 0,zP eb 0] w (aZ λrv w'=>∃ (p:Nat) (lg2:y9),rv=.tuple #[]/\St w0 (ah nb #[.int .i64 n] 3::ah rb #[zP r 0] 62::ah eb #[.int .i64 0] 26::ah r #[.int .i64 n,.int .i64 i,zP p 0,zP wt 0,.pointer none,.pointer none,.pointer none,zP rn 0,zP wc 0,.slice none 0 0,.slice none 0 0,.int .u64 0] 112::LO p n 0 lg2::L) w'):=by
 refine bp Tryz.func43 Tryz.ntmps43 ?_
 refine aE.aV [0,0,2,6,14,14,31,95,223,511] (.rd 0 (.rd 1 (.ef 2 (.rd 3 (.rd 4 (.rd 5 (.rd 6 (.rd 7 (.ef 8 (.ef 9 .done)))))))))) zk zk ai zk hs ?_
 intro w1 hs2 hw3
 refine Zj (Hl 0 1 0 hs2 (Hl 1 0 0 hs2 Hz)) ?_
 refine aF Tryz.call44 (oP n hn hs2) ?_
 rintro v7 w8 ⟨p4,lg5,rfl,hs6⟩
 refine⟨bw (n:=[.cell ⟨rb,0,none⟩ (zP r 0)]) zk (aG (hs6.cell 2 rfl zk) av),?_⟩
 refine En (Lu (Dz ?_))
 refine Zv (b:=r) (off:=2) (v:=zP p4 0) (ti:=Tryz.t105) zk hs6 4 (cs':=#[.int .i64 n,.int .i64 i,zP p4 0,zP wt 0,.pointer none,.pointer none,.pointer none,zP rn 0,zP wc 0,.slice none 0 0,.slice none 0 0,.int .u64 0]) ?_
 intro w9 hs10
 refine Lo (Dz ?_)
 refine Zv (b:=eb) (off:=0) (v:=.int .i64 0) (ti:=Tryz.t26) zk hs10 3 (cs':=#[.int .i64 0]) ?_
 intro w11 hs12
 refine Lo (Ld (Dz ?_))
 refine aw.done (.inr rfl) (λa hf=>results0 rfl a hf) ?_
 have hs13:=((((hs12.pl 0).pl 4).pl 4).pl 4).pl 4
 exact⟨p4,lg5,rfl,hs13⟩
theorem yS {w0 w:World}{L:List aI}{nb:Nat}{rb:Nat}{eb:Nat}{r:Nat}{wt:Nat}{rn:Nat}{wc:Nat}{i:Int}(hs:St w0 (ah nb #[.int .i64 4] 3::ah rb #[zP r 0] 62::ah eb #[.int .i64 0] 26::ah r #[.int .i64 4,.int .i64 i,.pointer none,zP wt 0,.pointer none,.pointer none,.pointer none,zP rn 0,zP wc 0,.slice none 0 0,.slice none 0 0,.int .u64 0] 112::L) w):Calls Tryz.prog 43 #[zP nb 0,zP rb 0,zP eb 0] w (aZ λrv w'=>rv=.tuple #[]/\St w0 (ah nb #[.int .i64 4] 3::ah rb #[zP r 0] 62::ah eb #[.int .i64 1] 26::ah r #[.int .i64 4,.int .i64 i,.pointer none,zP wt 0,.pointer none,.pointer none,.pointer none,zP rn 0,zP wc 0,.slice none 0 0,.slice none 0 0,.int .u64 0] 112::L) w'):=by
 refine bp Tryz.func43 Tryz.ntmps43 ?_
 refine aE.aV [0,0,2,6,14,14,31,95,223,511] (.rd 0 (.rd 1 (.ef 2 (.rd 3 (.rd 4 (.rd 5 (.rd 6 (.rd 7 (.ef 8 (.ef 9 .done)))))))))) zk zk ai zk hs ?_
 intro w1 hs2 hw3
 refine Zj (Hl 0 1 0 hs2 (Hl 1 0 0 hs2 Hz)) ?_
 refine aF Tryz.call44 (tK hs2) ?_
 rintro v5 w6 ⟨rfl,hs4⟩
 refine⟨bw (n:=[.cell ⟨rb,0,none⟩ (zP r 0)]) zk (aG (hs4.cell 1 rfl zk) av),?_⟩
 refine En (Lu (Dz ?_))
 refine Zv (b:=r) (off:=2) (v:=.pointer none) (ti:=Tryz.t105) zk hs4 3 (cs':=#[.int .i64 4,.int .i64 i,.pointer none,zP wt 0,.pointer none,.pointer none,.pointer none,zP rn 0,zP wc 0,.slice none 0 0,.slice none 0 0,.int .u64 0]) ?_
 intro w7 hs8
 refine Lo (Dz ?_)
 refine Zv (b:=eb) (off:=0) (v:=.int .i64 1) (ti:=Tryz.t26) zk hs8 2 (cs':=#[.int .i64 1]) ?_
 intro w9 hs10
 refine Lo (Ld (Dz ?_))
 refine aw.done (.inr rfl) (λa hf=>results0 rfl a hf) ?_
 exact⟨rfl,hs10⟩
theorem yT {w0 w:World}{L:List aI}{nb:Nat}{rb:Nat}{eb:Nat}{r:Nat}{wt:Nat}{rn:Nat}{wc:Nat}{i:Int}{p:Nat}(hs:St w0 (ah nb #[.int .i64 3] 3::ah rb #[zP r 0] 62::ah eb #[.int .i64 0] 26::ah r #[.int .i64 3,.int .i64 i,zP p 0,zP wt 0,.pointer none,.pointer none,.pointer none,zP rn 0,zP wc 0,.slice none 0 0,.slice none 0 0,.int .u64 0] 112::L) w):Calls Tryz.prog 45 #[zP nb 0,zP rb 0,zP eb 0] w (aZ λrv w'=>∃ (lp:Nat),rv=.tuple #[]/\St w0 (ah nb #[.int .i64 3] 3::ah rb #[zP r 0] 62::ah eb #[.int .i64 0] 26::ah r #[.int .i64 3,.int .i64 i,zP p 0,zP wt 0,zP lp 0,.pointer none,.pointer none,zP rn 0,zP wc 0,.slice none 0 0,.slice none 0 0,.int .u64 0] 112::L) w'):=by
 refine bp Tryz.func45 Tryz.ntmps45 ?_
 refine aE.aV [0,0,2,6,14,14,31,95,223,511] (.rd 0 (.rd 1 (.ef 2 (.rd 3 (.rd 4 (.rd 5 (.rd 6 (.rd 7 (.ef 8 (.ef 9 .done)))))))))) zk zk ai zk hs ?_
 intro w1 hs2 hw3
 refine Zj (Hl 0 1 0 hs2 (Hl 1 0 0 hs2 Hz)) ?_
 refine aF Tryz.call46 (tR hs2) ?_
 rintro v6 w7 ⟨lp4,rfl,hs5⟩
 refine⟨bw (n:=[.cell ⟨rb,0,none⟩ (zP r 0)]) zk (aG (hs5.cell 1 rfl zk) av),?_⟩
 refine En (Lu (Dz ?_))
 refine Zv (b:=r) (off:=4) (v:=zP lp4 0) (ti:=Tryz.t106) zk hs5 3 (cs':=#[.int .i64 3,.int .i64 i,zP p 0,zP wt 0,zP lp4 0,.pointer none,.pointer none,zP rn 0,zP wc 0,.slice none 0 0,.slice none 0 0,.int .u64 0]) ?_
 intro w8 hs9
 refine Lo (Dz ?_)
 refine Zv (b:=eb) (off:=0) (v:=.int .i64 0) (ti:=Tryz.t26) zk hs9 2 (cs':=#[.int .i64 0]) ?_
 intro w10 hs11
 refine Lo (Ld (Dz ?_))
 refine aw.done (.inr rfl) (λa hf=>results0 rfl a hf) ?_
 exact⟨lp4,rfl,hs11⟩
theorem yU {w0 w:World}{L:List aI}{nb:Nat}{rb:Nat}{eb:Nat}{r:Nat}{wt:Nat}{rn:Nat}{wc:Nat}{i:Int}{p:Nat}(hs:St w0 (ah nb #[.int .i64 5] 3::ah rb #[zP r 0] 62::ah eb #[.int .i64 0] 26::ah r #[.int .i64 5,.int .i64 i,zP p 0,zP wt 0,.pointer none,.pointer none,.pointer none,zP rn 0,zP wc 0,.slice none 0 0,.slice none 0 0,.int .u64 0] 112::L) w):Calls Tryz.prog 45 #[zP nb 0,zP rb 0,zP eb 0] w (aZ λrv w'=>∃ (lp:Nat) (gg2:Cx),rv=.tuple #[]/\St w0 (ah nb #[.int .i64 5] 3::ah rb #[zP r 0] 62::ah eb #[.int .i64 0] 26::ah r #[.int .i64 5,.int .i64 i,zP p 0,zP wt 0,zP lp 0,.pointer none,.pointer none,zP rn 0,zP wc 0,.slice none 0 0,.slice none 0 0,.int .u64 0] 112::LG lp 0 gg2::L) w'):=by
 refine bp Tryz.func45 Tryz.ntmps45 ?_
 refine aE.aV [0,0,2,6,14,14,31,95,223,511] (.rd 0 (.rd 1 (.ef 2 (.rd 3 (.rd 4 (.rd 5 (.rd 6 (.rd 7 (.ef 8 (.ef 9 .done)))))))))) zk zk ai zk hs ?_
 intro w1 hs2 hw3
 refine Zj (Hl 0 1 0 hs2 (Hl 1 0 0 hs2 Hz)) ?_
 refine aF Tryz.call46 (tS hs2) ?_
 rintro v7 w8 ⟨lp4,gg5,rfl,hs6⟩
 refine⟨bw (n:=[.cell ⟨rb,0,none⟩ (zP r 0)]) zk (aG (hs6.cell 2 rfl zk) av),?_⟩
 refine En (Lu (Dz ?_))
 refine Zv (b:=r) (off:=4) (v:=zP lp4 0) (ti:=Tryz.t106) zk hs6 4 (cs':=#[.int .i64 5,.int .i64 i,zP p 0,zP wt 0,zP lp4 0,.pointer none,.pointer none,zP rn 0,zP wc 0,.slice none 0 0,.slice none 0 0,.int .u64 0]) ?_
 intro w9 hs10
 refine Lo (Dz ?_)
 refine Zv (b:=eb) (off:=0) (v:=.int .i64 0) (ti:=Tryz.t26) zk hs10 3 (cs':=#[.int .i64 0]) ?_
 intro w11 hs12
 refine Lo (Ld (Dz ?_))
 refine aw.done (.inr rfl) (λa hf=>results0 rfl a hf) ?_
 have hs13:=((((hs12.pl 0).pl 4).pl 4).pl 4).pl 4
 exact⟨lp4,gg5,rfl,hs13⟩
theorem tV {w0 w:World}{L:List aI}{nb:Nat}{rb:Nat}{eb:Nat}{r:Nat}{wt:Nat}{rn:Nat}{wc:Nat}{i:Int}{p:Nat}{lp:Nat}(n:Int) (hn:(n=3\/n=5)) (hs:St w0 (ah nb #[.int .i64 n] 3::ah rb #[zP r 0] 62::ah eb #[.int .i64 0] 26::ah r #[.int .i64 n,.int .i64 i,zP p 0,zP wt 0,zP lp 0,.pointer none,.pointer none,zP rn 0,zP wc 0,.slice none 0 0,.slice none 0 0,.int .u64 0] 112::L) w):Calls Tryz.prog 47 #[zP nb 0,zP rb 0,zP eb 0] w (aZ λrv w'=>∃ (cp:Nat) (cr:Nat),rv=.tuple #[]/\St w0 (ah nb #[.int .i64 n] 3::ah rb #[zP r 0] 62::ah eb #[.int .i64 0] 26::ah r #[.int .i64 n,.int .i64 i,zP p 0,zP wt 0,zP lp 0,zP cp 0,.pointer none,zP rn 0,zP wc 0,.slice none 0 0,.slice none 0 0,.int .u64 0] 112::ah cp #[.int .i64 n,.map (some cr)] 192::bC iP wa cr ([]:List (gU×aO))::L) w'):=by
 refine bp Tryz.func47 Tryz.ntmps47 ?_
 refine aE.aV [0,0,2,6,14,14,31,95,223,511] (.rd 0 (.rd 1 (.ef 2 (.rd 3 (.rd 4 (.rd 5 (.rd 6 (.rd 7 (.ef 8 (.ef 9 .done)))))))))) zk zk ai zk hs ?_
 intro w1 hs2 hw3
 refine Zj (Hl 0 1 0 hs2 (Hl 1 0 0 hs2 Hz)) ?_
 refine aF Tryz.call48 (wj n hn hs2) ?_
 rintro v7 w8 ⟨cp4,cr5,rfl,hs6⟩
 refine⟨bw (n:=[.cell ⟨rb,0,none⟩ (zP r 0)]) zk (aG (hs6.cell 3 rfl zk) av),?_⟩
 refine En (Lu (Dz ?_))
 refine Zv (b:=r) (off:=5) (v:=zP cp4 0) (ti:=Tryz.t107) zk hs6 5 (cs':=#[.int .i64 n,.int .i64 i,zP p 0,zP wt 0,zP lp 0,zP cp4 0,.pointer none,zP rn 0,zP wc 0,.slice none 0 0,.slice none 0 0,.int .u64 0]) ?_
 intro w9 hs10
 refine Lo (Dz ?_)
 refine Zv (b:=eb) (off:=0) (v:=.int .i64 0) (ti:=Tryz.t26) zk hs10 4 (cs':=#[.int .i64 0]) ?_
 intro w11 hs12
 refine Lo (Ld (Dz ?_))
 refine aw.done (.inr rfl) (λa hf=>results0 rfl a hf) ?_
 have hs13:=(((((hs12.pl 1).pl 1).pl 5).pl 5).pl 5).pl 5
 exact⟨cp4,cr5,rfl,hs13⟩
theorem tW {w0 w:World}{L:List aI}{nb:Nat}{rb:Nat}{eb:Nat}{r:Nat}{wt:Nat}{rn:Nat}{wc:Nat}{i:Int}{p:Nat}{lp:Nat}{cp:Nat}(n:Int) (hn:(n=3\/n=5)) (hs:St w0 (ah nb #[.int .i64 n] 3::ah rb #[zP r 0] 62::ah eb #[.int .i64 0] 26::ah r #[.int .i64 n,.int .i64 i,zP p 0,zP wt 0,zP lp 0,zP cp 0,.pointer none,zP rn 0,zP wc 0,.slice none 0 0,.slice none 0 0,.int .u64 0] 112::L) w):Calls Tryz.prog 49 #[zP nb 0,zP rb 0,zP eb 0] w (aZ λrv w'=>∃ (gp:Nat),rv=.tuple #[]/\St w0 (ah nb #[.int .i64 n] 3::ah rb #[zP r 0] 62::ah eb #[.int .i64 0] 26::ah r #[.int .i64 n,.int .i64 i,zP p 0,zP wt 0,zP lp 0,zP cp 0,zP gp 0,zP rn 0,zP wc 0,.slice none 0 0,.slice none 0 0,.int .u64 0] 112::L) w'):=by
 refine bp Tryz.func49 Tryz.ntmps49 ?_
 refine aE.aV [0,0,2,6,14,14,31,95,223,511] (.rd 0 (.rd 1 (.ef 2 (.rd 3 (.rd 4 (.rd 5 (.rd 6 (.rd 7 (.ef 8 (.ef 9 .done)))))))))) zk zk ai zk hs ?_
 intro w1 hs2 hw3
 refine Zj (Hl 0 1 0 hs2 (Hl 1 0 0 hs2 Hz)) ?_
 refine aF Tryz.call50 (wk n hn hs2) ?_
 rintro v6 w7 ⟨gp4,rfl,hs5⟩
 refine⟨bw (n:=[.cell ⟨rb,0,none⟩ (zP r 0)]) zk (aG (hs5.cell 1 rfl zk) av),?_⟩
 refine En (Lu (Dz ?_))
 refine Zv (b:=r) (off:=6) (v:=zP gp4 0) (ti:=Tryz.t108) zk hs5 3 (cs':=#[.int .i64 n,.int .i64 i,zP p 0,zP wt 0,zP lp 0,zP cp 0,zP gp4 0,zP rn 0,zP wc 0,.slice none 0 0,.slice none 0 0,.int .u64 0]) ?_
 intro w8 hs9
 refine Lo (Dz ?_)
 refine Zv (b:=eb) (off:=0) (v:=.int .i64 0) (ti:=Tryz.t26) zk hs9 2 (cs':=#[.int .i64 0]) ?_
 intro w10 hs11
 refine Lo (Ld (Dz ?_))
 refine aw.done (.inr rfl) (λa hf=>results0 rfl a hf) ?_
 exact⟨gp4,rfl,hs11⟩
structure rR where
 p:Nat
 wt:Nat
 lp:Nat
 cp:Nat
 gp:Nat
 rn:Nat
 wc:Nat
 x:Int
 lo:y9
 lg:Cx
 cr:Nat
 cm:List (gU×aO)
def rR.ok (g:rR):Prop:=0<=g.x/\g.x<=4611686018427387904
def RP (r:Nat) (i:Int) (k:Nat) (g:rR):aI:=Bd g.ok [ah r #[.int .i64 5,.int .i64 i,zP g.p 0,zP g.wt 0,zP g.lp 0,zP g.cp 0,zP g.gp 0,zP g.rn 0,zP g.wc 0,.slice none 0 0,.slice none 0 0,.int .u64 g.x] 112,LO g.p 5 k g.lo,LG g.lp k g.lg,ah g.cp #[.int .i64 5,.map (some g.cr)] 192,bC iP wa g.cr g.cm]
def RQ (r:Nat) (i:Int) (g:rR):aI:=Bd True [ah r #[.int .i64 3,.int .i64 i,zP g.p 0,zP g.wt 0,zP g.lp 0,zP g.cp 0,zP g.gp 0,zP g.rn 0,zP g.wc 0,.slice none 0 0,.slice none 0 0,.int .u64 g.x] 112,LO g.p 3 0 g.lo]
theorem wm {w0 w:World}{L:List aI}(i:Int) (hs:St w0 L w):Calls Tryz.prog 16 #[.int .i64 4,.int .i64 i] w (aZ λrv w'=>rv=.tuple #[.pointer none,.int .i64 1]/\St w0 L w'):=by
 refine bp Tryz.func16 Tryz.ntmps16 ?_
 refine En (Ls (Lg [0] (Dz ?_)))
 refine ar.box rfl rfl zk (v:=.int .i64 4) zk hs (cs:=#[.int .i64 4]) zk ?_
 intro b1 w2 hs3
 refine Lo (aL (Lt (Ls (Dz ?_))))
 refine aE.join (T:=Nat×Nat×Nat×Nat×Nat) (E:=λjx=>[(1,.int .i64 i),(2,zP b1 0),(4,.pointer none),(5,.int .i64 0),(6,zP jx.1 0)]) (F:=λjx w=>St w0 (ah jx.1 #[zP jx.2.1 0] 62::ah jx.2.1 #[.int .i64 4,.int .i64 i,.pointer none,zP jx.2.2.1 0,.pointer none,.pointer none,.pointer none,zP jx.2.2.2.1 0,zP jx.2.2.2.2 0,.slice none 0 0,.slice none 0 0,.int .u64 0] 112::ah b1 #[.int .i64 4] 3::L) w) ?_ ?_
 ·refine aE.aV [0,0,0,4,12,31,63,0,255] (.rd 0 (.rd 1 (.alt (.ef 2 (.alt (.ef 3 (.alt (.ef 4 (.rd 5 (.alt (.ef 6 (.ef 7 (.ef 8 .done))) (.ef 7 (.ef 6 (.ef 8 .done)))))) (.ef 7 (.ef 4 (.rd 5 (.ef 6 (.ef 8 .done))))))) (.ef 7 (.ef 3 (.ef 4 (.rd 5 (.ef 6 (.ef 8 .done)))))))) (.ef 7 (.ef 2 (.ef 3 (.ef 4 (.rd 5 (.ef 6 (.ef 8 .done)))))))))) zk zk ai zk hs3 ?_
  intro w4 hs5 hw6
  refine Zp 0 2 [(0,.gen [.int .i64 4])] [(0,[.cell ⟨b1,0,none⟩ (.int .i64 4)])] (ak (aG (hs5.cell 0 rfl zk) av) cW) ?_
  refine ar.alt ?_ ?_
  ·refine aF Tryz.call40 (fT hs5) ?_
   rintro v9 w10 ⟨wt7,rfl,hs8⟩
   refine⟨bw (n:=[.cell ⟨b1,0,none⟩ (.int .i64 4)]) zk (aG (hs8.cell 0 rfl zk) av),?_⟩
   refine ar.alt ?_ ?_
   ·refine aF Tryz.call41 (ew hs8) ?_
    rintro v13 w14 ⟨rn11,rfl,hs12⟩
    refine⟨bw (n:=[.cell ⟨b1,0,none⟩ (.int .i64 4)]) zk (aG (hs12.cell 0 rfl zk) av),?_⟩
    refine ar.alt ?_ ?_
    ·refine aF Tryz.call42 (cR hs12) ?_
     rintro v17 w18 ⟨wc15,rfl,hs16⟩
     refine⟨bw (n:=[.cell ⟨b1,0,none⟩ (.int .i64 4)]) zk (aG (hs16.cell 0 rfl zk) av),?_⟩
     refine Zr 5 1 [] ?_
     refine ar.alt ?_ ?_
     ·refine ar.box rfl rfl zk (v:=.agg #[.int .i64 4,.int .i64 i,.pointer none,zP wt7 0,.pointer none,.pointer none,.pointer none,zP rn11 0,zP wc15 0,.slice none 0 0,.slice none 0 0,.int .u64 0]) zk hs16 (cs:=#[.int .i64 4,.int .i64 i,.pointer none,zP wt7 0,.pointer none,.pointer none,.pointer none,zP rn11 0,zP wc15 0,.slice none 0 0,.slice none 0 0,.int .u64 0]) zk ?_
      intro b19 w20 hs21
      refine Lo (Dz ?_)
      refine ar.alloc rfl rfl zk (z:=.pointer none) zk hs21 (cs:=#[.pointer none]) zk ?_
      intro b22 w23 hs24
      refine⟨bw (n:=[.cell ⟨b1,0,none⟩ (.int .i64 4)]) zk (aG (hs24.cell 2 rfl zk) av),?_⟩
      refine Zv (b:=b22) (off:=0) (v:=zP b19 0) (ti:=Tryz.t62) zk hs24 0 (cs':=#[zP b19 0]) ?_
      intro w25 hs26
      refine Lo (Ld (Dz ?_))
      refine aw.pick [1,2,4,5,6] (S':=[(1,.int .i64 i),(2,zP b1 0),(4,.pointer none),(5,.int .i64 0),(6,zP b22 0)]) zk ?_
      exact aw.bD (b22,b19,wt7,rn11,wc15) rfl hs26
     refine ar.alloc rfl rfl zk (z:=.pointer none) zk hs16 (cs:=#[.pointer none]) zk ?_
     intro b27 w28 hs29
     refine⟨bw (n:=[.cell ⟨b1,0,none⟩ (.int .i64 4)]) zk (aG (hs29.cell 1 rfl zk) av),?_⟩
     refine ar.box rfl rfl zk (v:=.agg #[.int .i64 4,.int .i64 i,.pointer none,zP wt7 0,.pointer none,.pointer none,.pointer none,zP rn11 0,zP wc15 0,.slice none 0 0,.slice none 0 0,.int .u64 0]) zk hs29 (cs:=#[.int .i64 4,.int .i64 i,.pointer none,zP wt7 0,.pointer none,.pointer none,.pointer none,zP rn11 0,zP wc15 0,.slice none 0 0,.slice none 0 0,.int .u64 0]) zk ?_
     intro b30 w31 hs32
     refine Lo (Dz ?_)
     refine Zv (b:=b27) (off:=0) (v:=zP b30 0) (ti:=Tryz.t62) zk hs32 1 (cs':=#[zP b30 0]) ?_
     intro w33 hs34
     refine Lo (Ld (Dz ?_))
     have hs35:=((hs34.pl 2).pl 1).pl 2
     refine aw.pick [1,2,4,5,6] (S':=[(1,.int .i64 i),(2,zP b1 0),(4,.pointer none),(5,.int .i64 0),(6,zP b27 0)]) zk ?_
     exact aw.bD (b27,b30,wt7,rn11,wc15) rfl hs35
    refine ar.alloc rfl rfl zk (z:=.pointer none) zk hs12 (cs:=#[.pointer none]) zk ?_
    intro b36 w37 hs38
    refine⟨bw (n:=[.cell ⟨b1,0,none⟩ (.int .i64 4)]) zk (aG (hs38.cell 1 rfl zk) av),?_⟩
    refine aF Tryz.call42 (cR hs38) ?_
    rintro v41 w42 ⟨wc39,rfl,hs40⟩
    refine⟨bw (n:=[.cell ⟨b1,0,none⟩ (.int .i64 4)]) zk (aG (hs40.cell 1 rfl zk) av),?_⟩
    refine Zr 5 1 [] ?_
    refine ar.box rfl rfl zk (v:=.agg #[.int .i64 4,.int .i64 i,.pointer none,zP wt7 0,.pointer none,.pointer none,.pointer none,zP rn11 0,zP wc39 0,.slice none 0 0,.slice none 0 0,.int .u64 0]) zk hs40 (cs:=#[.int .i64 4,.int .i64 i,.pointer none,zP wt7 0,.pointer none,.pointer none,.pointer none,zP rn11 0,zP wc39 0,.slice none 0 0,.slice none 0 0,.int .u64 0]) zk ?_
    intro b43 w44 hs45
    refine Lo (Dz ?_)
    refine Zv (b:=b36) (off:=0) (v:=zP b43 0) (ti:=Tryz.t62) zk hs45 1 (cs':=#[zP b43 0]) ?_
    intro w46 hs47
    refine Lo (Ld (Dz ?_))
    have hs48:=((hs47.pl 2).pl 1).pl 2
    refine aw.pick [1,2,4,5,6] (S':=[(1,.int .i64 i),(2,zP b1 0),(4,.pointer none),(5,.int .i64 0),(6,zP b36 0)]) zk ?_
    exact aw.bD (b36,b43,wt7,rn11,wc39) rfl hs48
   refine ar.alloc rfl rfl zk (z:=.pointer none) zk hs8 (cs:=#[.pointer none]) zk ?_
   intro b49 w50 hs51
   refine⟨bw (n:=[.cell ⟨b1,0,none⟩ (.int .i64 4)]) zk (aG (hs51.cell 1 rfl zk) av),?_⟩
   refine aF Tryz.call41 (ew hs51) ?_
   rintro v54 w55 ⟨rn52,rfl,hs53⟩
   refine⟨bw (n:=[.cell ⟨b1,0,none⟩ (.int .i64 4)]) zk (aG (hs53.cell 1 rfl zk) av),?_⟩
   refine aF Tryz.call42 (cR hs53) ?_
   rintro v58 w59 ⟨wc56,rfl,hs57⟩
   refine⟨bw (n:=[.cell ⟨b1,0,none⟩ (.int .i64 4)]) zk (aG (hs57.cell 1 rfl zk) av),?_⟩
   refine Zr 5 1 [] ?_
   refine ar.box rfl rfl zk (v:=.agg #[.int .i64 4,.int .i64 i,.pointer none,zP wt7 0,.pointer none,.pointer none,.pointer none,zP rn52 0,zP wc56 0,.slice none 0 0,.slice none 0 0,.int .u64 0]) zk hs57 (cs:=#[.int .i64 4,.int .i64 i,.pointer none,zP wt7 0,.pointer none,.pointer none,.pointer none,zP rn52 0,zP wc56 0,.slice none 0 0,.slice none 0 0,.int .u64 0]) zk ?_
   intro b60 w61 hs62
   refine Lo (Dz ?_)
   refine Zv (b:=b49) (off:=0) (v:=zP b60 0) (ti:=Tryz.t62) zk hs62 1 (cs':=#[zP b60 0]) ?_
   intro w63 hs64
   refine Lo (Ld (Dz ?_))
   have hs65:=((hs64.pl 2).pl 1).pl 2
   refine aw.pick [1,2,4,5,6] (S':=[(1,.int .i64 i),(2,zP b1 0),(4,.pointer none),(5,.int .i64 0),(6,zP b49 0)]) zk ?_
   exact aw.bD (b49,b60,wt7,rn52,wc56) rfl hs65
  refine ar.alloc rfl rfl zk (z:=.pointer none) zk hs5 (cs:=#[.pointer none]) zk ?_
  intro b66 w67 hs68
  refine⟨bw (n:=[.cell ⟨b1,0,none⟩ (.int .i64 4)]) zk (aG (hs68.cell 1 rfl zk) av),?_⟩
  refine aF Tryz.call40 (fT hs68) ?_
  rintro v71 w72 ⟨wt69,rfl,hs70⟩
  refine⟨bw (n:=[.cell ⟨b1,0,none⟩ (.int .i64 4)]) zk (aG (hs70.cell 1 rfl zk) av),?_⟩
  refine aF Tryz.call41 (ew hs70) ?_
  rintro v75 w76 ⟨rn73,rfl,hs74⟩
  refine⟨bw (n:=[.cell ⟨b1,0,none⟩ (.int .i64 4)]) zk (aG (hs74.cell 1 rfl zk) av),?_⟩
  refine aF Tryz.call42 (cR hs74) ?_
  rintro v79 w80 ⟨wc77,rfl,hs78⟩
  refine⟨bw (n:=[.cell ⟨b1,0,none⟩ (.int .i64 4)]) zk (aG (hs78.cell 1 rfl zk) av),?_⟩
  refine Zr 5 1 [] ?_
  refine ar.box rfl rfl zk (v:=.agg #[.int .i64 4,.int .i64 i,.pointer none,zP wt69 0,.pointer none,.pointer none,.pointer none,zP rn73 0,zP wc77 0,.slice none 0 0,.slice none 0 0,.int .u64 0]) zk hs78 (cs:=#[.int .i64 4,.int .i64 i,.pointer none,zP wt69 0,.pointer none,.pointer none,.pointer none,zP rn73 0,zP wc77 0,.slice none 0 0,.slice none 0 0,.int .u64 0]) zk ?_
  intro b81 w82 hs83
  refine Lo (Dz ?_)
  refine Zv (b:=b66) (off:=0) (v:=zP b81 0) (ti:=Tryz.t62) zk hs83 1 (cs':=#[zP b81 0]) ?_
  intro w84 hs85
  refine Lo (Ld (Dz ?_))
  have hs86:=((hs85.pl 2).pl 1).pl 2
  refine aw.pick [1,2,4,5,6] (S':=[(1,.int .i64 i),(2,zP b1 0),(4,.pointer none),(5,.int .i64 0),(6,zP b66 0)]) zk ?_
  exact aw.bD (b66,b81,wt69,rn73,wc77) rfl hs86
 rintro⟨b87,b88,wt89,rn90,wc91⟩ w92 hs93
 have hs94:St w0 (ah b87 #[zP b88 0] 62::ah b88 #[.int .i64 4,.int .i64 i,.pointer none,zP wt89 0,.pointer none,.pointer none,.pointer none,zP rn90 0,zP wc91 0,.slice none 0 0,.slice none 0 0,.int .u64 0] 112::ah b1 #[.int .i64 4] 3::L) w92:=hs93
 refine aw.cq (S':=[(1,.int .i64 i),(2,zP b1 0),(4,.pointer none),(5,.int .i64 0),(6,zP b87 0)]) rfl ?_
 refine En (Lt (Ls (Lg [0] (Dz ?_))))
 refine ar.alloc rfl rfl zk (z:=.int .i64 0) zk hs94 (cs:=#[.int .i64 0]) zk ?_
 intro b95 w96 hs97
 refine Lo (Ld (Lt (Ls (Ls (Lg [4] (Lu (Dz ?_)))))))
 refine ar.aW rfl zk (t:=76) (e:=1) (n:=4) (ps:=[(0,.func (.func 43) #[] #[zP b1 0,zP b87 0,zP b95 0]),(1,.func (.func 45) #[] #[zP b1 0,zP b87 0,zP b95 0]),(2,.func (.func 47) #[] #[zP b1 0,zP b87 0,zP b95 0]),(3,.func (.func 49) #[] #[zP b1 0,zP b87 0,zP b95 0])]) zk zk (ti:=Tryz.t1) (z:=.nilFunc) zk zk zf zf (cs:=#[.func (.func 43) #[] #[zP b1 0,zP b87 0,zP b95 0],.func (.func 45) #[] #[zP b1 0,zP b87 0,zP b95 0],.func (.func 47) #[] #[zP b1 0,zP b87 0,zP b95 0],.func (.func 49) #[] #[zP b1 0,zP b87 0,zP b95 0]]) zk hs97 ?_
 intro b98 w99 hs100 hz101
 refine Lo (aL (Lt (Lb (Dz ?_))))
 refine aE.dJ 5 ?_
 refine En (Ls (La (Lt (Ls (LT (Lk (Lt (Ls (Lb (Ls (Dz ?_)))))))))))
 refine bj (Hx 0 (0:Int) (4:Int) b98 0 1 (Hl 1 0 0 hs100 Hz)) ?_
 refine En (Lt (Ls (Lg [1] (Lu (Dz ?_)))))
 have hs102:=(((hs100.pl 3).pl 2).pl 3).pl 4
 refine aF Tryz.call43 (yS hs102) ?_
 rintro v104 w105 ⟨rfl,hs103⟩
 refine Lo (Ld (Lt (Ls (Dz ?_))))
 refine bj (Hl 0 2 0 hs103 Hz) ?_
 refine En (Lt (LT (Ls (La (Lt (Le (Ll (Ly (uk (Ll (Ly (Dz ?_))))))))))))
 refine jE (v:=.pointer none) (v':=.int .i64 1) ?_
 have hs106:=hs103.dr 5
 exact⟨rfl,hs106⟩
theorem kC {w0 w:World}{L:List aI}(i:Int) (hi:1<=i/\i<=3) (hs:St w0 L w):Calls Tryz.prog 16 #[.int .i64 3,.int .i64 i] w (aZ λrv w'=>∃ (r:Nat) (rg2:rR),rv=.tuple #[zP r 0,.int .i64 0]/\St w0 (RQ r i rg2::L) w'):=by
 refine bp Tryz.func16 Tryz.ntmps16 ?_
 refine En (Ls (Lg [0] (Dz ?_)))
 refine ar.box rfl rfl zk (v:=.int .i64 3) zk hs (cs:=#[.int .i64 3]) zk ?_
 intro b1 w2 hs3
 refine Lo (aL (Lt (Ls (Dz ?_))))
 refine aE.join (T:=Nat×Nat×Nat×Nat×Nat) (E:=λjx=>[(1,.int .i64 i),(2,zP b1 0),(4,.pointer none),(5,.int .i64 0),(6,zP jx.1 0)]) (F:=λjx w=>St w0 (ah jx.1 #[zP jx.2.1 0] 62::ah jx.2.1 #[.int .i64 3,.int .i64 i,.pointer none,zP jx.2.2.1 0,.pointer none,.pointer none,.pointer none,zP jx.2.2.2.1 0,zP jx.2.2.2.2 0,.slice none 0 0,.slice none 0 0,.int .u64 0] 112::ah b1 #[.int .i64 3] 3::L) w) ?_ ?_
 ·refine aE.aV [0,0,0,4,12,31,63,0,255] (.rd 0 (.rd 1 (.alt (.ef 2 (.alt (.ef 3 (.alt (.ef 4 (.rd 5 (.alt (.ef 6 (.ef 7 (.ef 8 .done))) (.ef 7 (.ef 6 (.ef 8 .done)))))) (.ef 7 (.ef 4 (.rd 5 (.ef 6 (.ef 8 .done))))))) (.ef 7 (.ef 3 (.ef 4 (.rd 5 (.ef 6 (.ef 8 .done)))))))) (.ef 7 (.ef 2 (.ef 3 (.ef 4 (.rd 5 (.ef 6 (.ef 8 .done)))))))))) zk zk ai zk hs3 ?_
  intro w4 hs5 hw6
  refine Zp 0 2 [(0,.gen [.int .i64 3])] [(0,[.cell ⟨b1,0,none⟩ (.int .i64 3)])] (ak (aG (hs5.cell 0 rfl zk) av) cW) ?_
  refine ar.alt ?_ ?_
  ·refine aF Tryz.call40 (fT hs5) ?_
   rintro v9 w10 ⟨wt7,rfl,hs8⟩
   refine⟨bw (n:=[.cell ⟨b1,0,none⟩ (.int .i64 3)]) zk (aG (hs8.cell 0 rfl zk) av),?_⟩
   refine ar.alt ?_ ?_
   ·refine aF Tryz.call41 (ew hs8) ?_
    rintro v13 w14 ⟨rn11,rfl,hs12⟩
    refine⟨bw (n:=[.cell ⟨b1,0,none⟩ (.int .i64 3)]) zk (aG (hs12.cell 0 rfl zk) av),?_⟩
    refine ar.alt ?_ ?_
    ·refine aF Tryz.call42 (cR hs12) ?_
     rintro v17 w18 ⟨wc15,rfl,hs16⟩
     refine⟨bw (n:=[.cell ⟨b1,0,none⟩ (.int .i64 3)]) zk (aG (hs16.cell 0 rfl zk) av),?_⟩
     refine Zr 5 1 [] ?_
     refine ar.alt ?_ ?_
     ·refine ar.box rfl rfl zk (v:=.agg #[.int .i64 3,.int .i64 i,.pointer none,zP wt7 0,.pointer none,.pointer none,.pointer none,zP rn11 0,zP wc15 0,.slice none 0 0,.slice none 0 0,.int .u64 0]) zk hs16 (cs:=#[.int .i64 3,.int .i64 i,.pointer none,zP wt7 0,.pointer none,.pointer none,.pointer none,zP rn11 0,zP wc15 0,.slice none 0 0,.slice none 0 0,.int .u64 0]) zk ?_
      intro b19 w20 hs21
      refine Lo (Dz ?_)
      refine ar.alloc rfl rfl zk (z:=.pointer none) zk hs21 (cs:=#[.pointer none]) zk ?_
      intro b22 w23 hs24
      refine⟨bw (n:=[.cell ⟨b1,0,none⟩ (.int .i64 3)]) zk (aG (hs24.cell 2 rfl zk) av),?_⟩
      refine Zv (b:=b22) (off:=0) (v:=zP b19 0) (ti:=Tryz.t62) zk hs24 0 (cs':=#[zP b19 0]) ?_
      intro w25 hs26
      refine Lo (Ld (Dz ?_))
      refine aw.pick [1,2,4,5,6] (S':=[(1,.int .i64 i),(2,zP b1 0),(4,.pointer none),(5,.int .i64 0),(6,zP b22 0)]) zk ?_
      exact aw.bD (b22,b19,wt7,rn11,wc15) rfl hs26
     refine ar.alloc rfl rfl zk (z:=.pointer none) zk hs16 (cs:=#[.pointer none]) zk ?_
     intro b27 w28 hs29
     refine⟨bw (n:=[.cell ⟨b1,0,none⟩ (.int .i64 3)]) zk (aG (hs29.cell 1 rfl zk) av),?_⟩
     refine ar.box rfl rfl zk (v:=.agg #[.int .i64 3,.int .i64 i,.pointer none,zP wt7 0,.pointer none,.pointer none,.pointer none,zP rn11 0,zP wc15 0,.slice none 0 0,.slice none 0 0,.int .u64 0]) zk hs29 (cs:=#[.int .i64 3,.int .i64 i,.pointer none,zP wt7 0,.pointer none,.pointer none,.pointer none,zP rn11 0,zP wc15 0,.slice none 0 0,.slice none 0 0,.int .u64 0]) zk ?_
     intro b30 w31 hs32
     refine Lo (Dz ?_)
     refine Zv (b:=b27) (off:=0) (v:=zP b30 0) (ti:=Tryz.t62) zk hs32 1 (cs':=#[zP b30 0]) ?_
     intro w33 hs34
     refine Lo (Ld (Dz ?_))
     have hs35:=((hs34.pl 2).pl 1).pl 2
     refine aw.pick [1,2,4,5,6] (S':=[(1,.int .i64 i),(2,zP b1 0),(4,.pointer none),(5,.int .i64 0),(6,zP b27 0)]) zk ?_
     exact aw.bD (b27,b30,wt7,rn11,wc15) rfl hs35
    refine ar.alloc rfl rfl zk (z:=.pointer none) zk hs12 (cs:=#[.pointer none]) zk ?_
    intro b36 w37 hs38
    refine⟨bw (n:=[.cell ⟨b1,0,none⟩ (.int .i64 3)]) zk (aG (hs38.cell 1 rfl zk) av),?_⟩
    refine aF Tryz.call42 (cR hs38) ?_
    rintro v41 w42 ⟨wc39,rfl,hs40⟩
    refine⟨bw (n:=[.cell ⟨b1,0,none⟩ (.int .i64 3)]) zk (aG (hs40.cell 1 rfl zk) av),?_⟩
    refine Zr 5 1 [] ?_
    refine ar.box rfl rfl zk (v:=.agg #[.int .i64 3,.int .i64 i,.pointer none,zP wt7 0,.pointer none,.pointer none,.pointer none,zP rn11 0,zP wc39 0,.slice none 0 0,.slice none 0 0,.int .u64 0]) zk hs40 (cs:=#[.int .i64 3,.int .i64 i,.pointer none,zP wt7 0,.pointer none,.pointer none,.pointer none,zP rn11 0,zP wc39 0,.slice none 0 0,.slice none 0 0,.int .u64 0]) zk ?_
    intro b43 w44 hs45
    refine Lo (Dz ?_)
    refine Zv (b:=b36) (off:=0) (v:=zP b43 0) (ti:=Tryz.t62) zk hs45 1 (cs':=#[zP b43 0]) ?_
    intro w46 hs47
    refine Lo (Ld (Dz ?_))
    have hs48:=((hs47.pl 2).pl 1).pl 2
    refine aw.pick [1,2,4,5,6] (S':=[(1,.int .i64 i),(2,zP b1 0),(4,.pointer none),(5,.int .i64 0),(6,zP b36 0)]) zk ?_
    exact aw.bD (b36,b43,wt7,rn11,wc39) rfl hs48
   refine ar.alloc rfl rfl zk (z:=.pointer none) zk hs8 (cs:=#[.pointer none]) zk ?_
   intro b49 w50 hs51
   refine⟨bw (n:=[.cell ⟨b1,0,none⟩ (.int .i64 3)]) zk (aG (hs51.cell 1 rfl zk) av),?_⟩
   refine aF Tryz.call41 (ew hs51) ?_
   rintro v54 w55 ⟨rn52,rfl,hs53⟩
   refine⟨bw (n:=[.cell ⟨b1,0,none⟩ (.int .i64 3)]) zk (aG (hs53.cell 1 rfl zk) av),?_⟩
   refine aF Tryz.call42 (cR hs53) ?_
   rintro v58 w59 ⟨wc56,rfl,hs57⟩
   refine⟨bw (n:=[.cell ⟨b1,0,none⟩ (.int .i64 3)]) zk (aG (hs57.cell 1 rfl zk) av),?_⟩
   refine Zr 5 1 [] ?_
   refine ar.box rfl rfl zk (v:=.agg #[.int .i64 3,.int .i64 i,.pointer none,zP wt7 0,.pointer none,.pointer none,.pointer none,zP rn52 0,zP wc56 0,.slice none 0 0,.slice none 0 0,.int .u64 0]) zk hs57 (cs:=#[.int .i64 3,.int .i64 i,.pointer none,zP wt7 0,.pointer none,.pointer none,.pointer none,zP rn52 0,zP wc56 0,.slice none 0 0,.slice none 0 0,.int .u64 0]) zk ?_
   intro b60 w61 hs62
   refine Lo (Dz ?_)
   refine Zv (b:=b49) (off:=0) (v:=zP b60 0) (ti:=Tryz.t62) zk hs62 1 (cs':=#[zP b60 0]) ?_
   intro w63 hs64
   refine Lo (Ld (Dz ?_))
   have hs65:=((hs64.pl 2).pl 1).pl 2
   refine aw.pick [1,2,4,5,6] (S':=[(1,.int .i64 i),(2,zP b1 0),(4,.pointer none),(5,.int .i64 0),(6,zP b49 0)]) zk ?_
   exact aw.bD (b49,b60,wt7,rn52,wc56) rfl hs65
  refine ar.alloc rfl rfl zk (z:=.pointer none) zk hs5 (cs:=#[.pointer none]) zk ?_
  intro b66 w67 hs68
  refine⟨bw (n:=[.cell ⟨b1,0,none⟩ (.int .i64 3)]) zk (aG (hs68.cell 1 rfl zk) av),?_⟩
  refine aF Tryz.call40 (fT hs68) ?_
  rintro v71 w72 ⟨wt69,rfl,hs70⟩
  refine⟨bw (n:=[.cell ⟨b1,0,none⟩ (.int .i64 3)]) zk (aG (hs70.cell 1 rfl zk) av),?_⟩
  refine aF Tryz.call41 (ew hs70) ?_
  rintro v75 w76 ⟨rn73,rfl,hs74⟩
  refine⟨bw (n:=[.cell ⟨b1,0,none⟩ (.int .i64 3)]) zk (aG (hs74.cell 1 rfl zk) av),?_⟩
  refine aF Tryz.call42 (cR hs74) ?_
  rintro v79 w80 ⟨wc77,rfl,hs78⟩
  refine⟨bw (n:=[.cell ⟨b1,0,none⟩ (.int .i64 3)]) zk (aG (hs78.cell 1 rfl zk) av),?_⟩
  refine Zr 5 1 [] ?_
  refine ar.box rfl rfl zk (v:=.agg #[.int .i64 3,.int .i64 i,.pointer none,zP wt69 0,.pointer none,.pointer none,.pointer none,zP rn73 0,zP wc77 0,.slice none 0 0,.slice none 0 0,.int .u64 0]) zk hs78 (cs:=#[.int .i64 3,.int .i64 i,.pointer none,zP wt69 0,.pointer none,.pointer none,.pointer none,zP rn73 0,zP wc77 0,.slice none 0 0,.slice none 0 0,.int .u64 0]) zk ?_
  intro b81 w82 hs83
  refine Lo (Dz ?_)
  refine Zv (b:=b66) (off:=0) (v:=zP b81 0) (ti:=Tryz.t62) zk hs83 1 (cs':=#[zP b81 0]) ?_
  intro w84 hs85
  refine Lo (Ld (Dz ?_))
  have hs86:=((hs85.pl 2).pl 1).pl 2
  refine aw.pick [1,2,4,5,6] (S':=[(1,.int .i64 i),(2,zP b1 0),(4,.pointer none),(5,.int .i64 0),(6,zP b66 0)]) zk ?_
  exact aw.bD (b66,b81,wt69,rn73,wc77) rfl hs86
 rintro⟨b87,b88,wt89,rn90,wc91⟩ w92 hs93
 have hs94:St w0 (ah b87 #[zP b88 0] 62::ah b88 #[.int .i64 3,.int .i64 i,.pointer none,zP wt89 0,.pointer none,.pointer none,.pointer none,zP rn90 0,zP wc91 0,.slice none 0 0,.slice none 0 0,.int .u64 0] 112::ah b1 #[.int .i64 3] 3::L) w92:=hs93
 refine aw.cq (S':=[(1,.int .i64 i),(2,zP b1 0),(4,.pointer none),(5,.int .i64 0),(6,zP b87 0)]) rfl ?_
 refine En (Lt (Ls (Lg [0] (Dz ?_))))
 refine ar.alloc rfl rfl zk (z:=.int .i64 0) zk hs94 (cs:=#[.int .i64 0]) zk ?_
 intro b95 w96 hs97
 refine Lo (Ld (Lt (Ls (Ls (Lg [4] (Lu (Dz ?_)))))))
 refine ar.aW rfl zk (t:=76) (e:=1) (n:=4) (ps:=[(0,.func (.func 43) #[] #[zP b1 0,zP b87 0,zP b95 0]),(1,.func (.func 45) #[] #[zP b1 0,zP b87 0,zP b95 0]),(2,.func (.func 47) #[] #[zP b1 0,zP b87 0,zP b95 0]),(3,.func (.func 49) #[] #[zP b1 0,zP b87 0,zP b95 0])]) zk zk (ti:=Tryz.t1) (z:=.nilFunc) zk zk zf zf (cs:=#[.func (.func 43) #[] #[zP b1 0,zP b87 0,zP b95 0],.func (.func 45) #[] #[zP b1 0,zP b87 0,zP b95 0],.func (.func 47) #[] #[zP b1 0,zP b87 0,zP b95 0],.func (.func 49) #[] #[zP b1 0,zP b87 0,zP b95 0]]) zk hs97 ?_
 intro b98 w99 hs100 hz101
 refine Lo (aL (Lt (Lb (Dz ?_))))
 refine aE.dJ 5 ?_
 refine En (Ls (La (Lt (Ls (LT (Lk (Lt (Ls (Lb (Ls (Dz ?_)))))))))))
 refine bj (Hx 0 (0:Int) (4:Int) b98 0 1 (Hl 1 0 0 hs100 Hz)) ?_
 refine En (Lt (Ls (Lg [1] (Lu (Dz ?_)))))
 have hs102:=(((hs100.pl 3).pl 2).pl 3).pl 4
 refine aF Tryz.call43 (tU 3 zf hs102) ?_
 rintro v106 w107 ⟨p103,lg104,rfl,hs105⟩
 refine Lo (Ld (Lt (Ls (Dz ?_))))
 refine bj (Hl 0 2 0 hs105 Hz) ?_
 refine En (Lt (LF (Lk (Lm (Lt (La (Dz ?_)))))))
 refine aw.again ?_
 refine En (Ls (La (Lt (Ls (LT (Lk (Lt (Ls (Lb (Ls (Dz ?_)))))))))))
 refine bj (Hx 0 (1:Int) (4:Int) b98 0 1 (Hl 1 5 1 hs105 Hz)) ?_
 refine En (Lt (Ls (Lg [1] (Lu (Dz ?_)))))
 refine aF Tryz.call45 (yT hs105) ?_
 rintro v110 w111 ⟨lp108,rfl,hs109⟩
 refine Lo (Ld (Lt (Ls (Dz ?_))))
 refine bj (Hl 0 2 0 hs109 Hz) ?_
 refine En (Lt (LF (Lk (Lm (Lt (La (Dz ?_)))))))
 refine aw.again ?_
 refine En (Ls (La (Lt (Ls (LT (Lk (Lt (Ls (Lb (Ls (Dz ?_)))))))))))
 refine bj (Hx 0 (2:Int) (4:Int) b98 0 1 (Hl 1 5 2 hs109 Hz)) ?_
 refine En (Lt (Ls (Lg [1] (Lu (Dz ?_)))))
 refine aF Tryz.call47 (tV 3 zf hs109) ?_
 rintro v115 w116 ⟨cp112,cr113,rfl,hs114⟩
 refine Lo (Ld (Lt (Ls (Dz ?_))))
 refine bj (Hl 0 2 0 hs114 Hz) ?_
 refine En (Lt (LF (Lk (Lm (Lt (La (Dz ?_)))))))
 refine aw.again ?_
 refine En (Ls (La (Lt (Ls (LT (Lk (Lt (Ls (Lb (Ls (Dz ?_)))))))))))
 refine bj (Hx 0 (3:Int) (4:Int) b98 0 1 (Hl 1 7 3 hs114 Hz)) ?_
 refine En (Lt (Ls (Lg [1] (Lu (Dz ?_)))))
 refine aF Tryz.call49 (tW 3 zf hs114) ?_
 rintro v119 w120 ⟨gp117,rfl,hs118⟩
 refine Lo (Ld (Lt (Ls (Dz ?_))))
 refine bj (Hl 0 2 0 hs118 Hz) ?_
 refine En (Lt (LF (Lk (Lm (Lt (La (Dz ?_)))))))
 refine aw.again ?_
 refine En (Ls (La (Lt (Ls (LF (Lx (gv (gw (Lh (Lt (Ls (Ls (Dz ?_)))))))))))))
 refine aE.join (T:=Unit) (E:=λ_=>[(38,.bool ((decide ((i:Int)<1)) || (decide ((i:Int)>3)))),(4,.pointer none),(5,.int .i64 0),(6,zP b87 0)]) (F:=λ_ w=>St w0 (ah b1 #[.int .i64 3] 3::ah b87 #[zP b88 0] 62::ah b95 #[.int .i64 0] 26::ah b88 #[.int .i64 3,.int .i64 i,zP p103 0,zP wt89 0,zP lp108 0,zP cp112 0,zP gp117 0,zP rn90 0,zP wc91 0,.slice none 0 0,.slice none 0 0,.int .u64 0] 112::ah cp112 #[.int .i64 3,.map (some cr113)] 192::bC iP wa cr113 ([]:List (gU×aO))::LO p103 3 0 lg104::ah b98 #[.func (.func 43) #[] #[zP b1 0,zP b87 0,zP b95 0],.func (.func 45) #[] #[zP b1 0,zP b87 0,zP b95 0],.func (.func 47) #[] #[zP b1 0,zP b87 0,zP b95 0],.func (.func 49) #[] #[zP b1 0,zP b87 0,zP b95 0]] 1::L) w) ?_ ?_
 ·refine Zg [] ?_
  refine Zr 0 3 [] ?_
  rcases Bool.eq_false_or_eq_true (decide ((i:Int)<1)) with h121|h121
  ·refine di 34 true h121 ?_
   have h121':(i:Int)<1:=of_decide_eq_true h121
   exfalso;have hz:=h121;first|omega|(simp at hz;done)|(simp at hz;omega)
  ·refine di 34 false h121 ?_
   have h121':¬ ((i:Int)<1):=of_decide_eq_false h121
   refine gY (Hl 4 0 0 hs118 Hz) ?_
   refine aw.pick [38,4,5,6] (S':=[(38,.bool (decide ((i:Int)>3))),(4,.pointer none),(5,.int .i64 0),(6,zP b87 0)]) zk ?_
   exact aw.bD () (by first|rfl|(simp only [h121,Bool.not_true,Bool.not_false,Bool.true_or,Bool.false_or,Bool.true_and,Bool.false_and,Bool.or_true,Bool.or_false,Bool.and_true,Bool.and_false];done)|(simp [h121];done)) hs118
 intro _ w122 hs123
 refine Zt (?_)
 refine cS (t:=(decide ((i:Int)<1)) || (decide ((i:Int)>3))) (λh124=>?_) (λh124=>?_)
 ·exfalso;have hz:=h124;first|omega|(simp at hz;done)|(simp at hz;omega)
 ·have h124a:(decide ((i:Int)<1))=false:=(Bool.or_eq_false_iff.1 h124).1
  have h124a':¬ ((i:Int)<1):=of_decide_eq_false h124a
  have h124b:(decide ((i:Int)>3))=false:=(Bool.or_eq_false_iff.1 h124).2
  have h124b':¬ ((i:Int)>3):=of_decide_eq_false h124b
  refine Zk (Zt (Zs (?_)))
  refine bj (Hl 0 1 0 hs123 Hz) ?_
  refine Zt (Ze (?_))
  refine jE (v:=zP b88 0) (v':=.int .i64 0) ?_
  have hs125:=(hs123.pl 6).pl 4
  have hs126:St w0 (RQ b88 i (⟨p103,wt89,lp108,cp112,gp117,rn90,wc91,0,lg104,⟨0,0,0,0,0,0,0,0,(0,0),(0,0),(0,0),(0,0),none,0,[],0,0,0,0⟩,0,[]⟩)::ah b1 #[.int .i64 3] 3::ah b87 #[zP b88 0] 62::ah b95 #[.int .i64 0] 26::ah cp112 #[.int .i64 3,.map (some cr113)] 192::bC iP wa cr113 ([]:List (gU×aO))::ah b98 #[.func (.func 43) #[] #[zP b1 0,zP b87 0,zP b95 0],.func (.func 45) #[] #[zP b1 0,zP b87 0,zP b95 0],.func (.func 47) #[] #[zP b1 0,zP b87 0,zP b95 0],.func (.func 49) #[] #[zP b1 0,zP b87 0,zP b95 0]] 1::L) w122:=Bd.close trivial hs125
  have hs127:=((((((hs126.pl 0).pl 6).pl 6).pl 6).pl 6).pl 6).pl 6
  have hs128:=hs127.dr 6
  exact⟨b88,⟨p103,wt89,lp108,cp112,gp117,rn90,wc91,0,lg104,⟨0,0,0,0,0,0,0,0,(0,0),(0,0),(0,0),(0,0),none,0,[],0,0,0,0⟩,0,[]⟩,rfl,hs128⟩
theorem kD {w0 w:World}{L:List aI}(i:Int) (hi:1<=i/\i<=5) (hs:St w0 L w):Calls Tryz.prog 16 #[.int .i64 5,.int .i64 i] w (aZ λrv w'=>∃ (r:Nat) (rg2:rR),rv=.tuple #[zP r 0,.int .i64 0]/\St w0 (RP r i 0 rg2::L) w'):=by
 refine bp Tryz.func16 Tryz.ntmps16 ?_
 refine En (Ls (Lg [0] (Dz ?_)))
 refine ar.box rfl rfl zk (v:=.int .i64 5) zk hs (cs:=#[.int .i64 5]) zk ?_
 intro b1 w2 hs3
 refine Lo (aL (Lt (Ls (Dz ?_))))
 refine aE.join (T:=Nat×Nat×Nat×Nat×Nat) (E:=λjx=>[(1,.int .i64 i),(2,zP b1 0),(4,.pointer none),(5,.int .i64 0),(6,zP jx.1 0)]) (F:=λjx w=>St w0 (ah jx.1 #[zP jx.2.1 0] 62::ah jx.2.1 #[.int .i64 5,.int .i64 i,.pointer none,zP jx.2.2.1 0,.pointer none,.pointer none,.pointer none,zP jx.2.2.2.1 0,zP jx.2.2.2.2 0,.slice none 0 0,.slice none 0 0,.int .u64 0] 112::ah b1 #[.int .i64 5] 3::L) w) ?_ ?_
 ·refine aE.aV [0,0,0,4,12,31,63,0,255] (.rd 0 (.rd 1 (.alt (.ef 2 (.alt (.ef 3 (.alt (.ef 4 (.rd 5 (.alt (.ef 6 (.ef 7 (.ef 8 .done))) (.ef 7 (.ef 6 (.ef 8 .done)))))) (.ef 7 (.ef 4 (.rd 5 (.ef 6 (.ef 8 .done))))))) (.ef 7 (.ef 3 (.ef 4 (.rd 5 (.ef 6 (.ef 8 .done)))))))) (.ef 7 (.ef 2 (.ef 3 (.ef 4 (.rd 5 (.ef 6 (.ef 8 .done)))))))))) zk zk ai zk hs3 ?_
  intro w4 hs5 hw6
  refine Zp 0 2 [(0,.gen [.int .i64 5])] [(0,[.cell ⟨b1,0,none⟩ (.int .i64 5)])] (ak (aG (hs5.cell 0 rfl zk) av) cW) ?_
  refine ar.alt ?_ ?_
  ·refine aF Tryz.call40 (fT hs5) ?_
   rintro v9 w10 ⟨wt7,rfl,hs8⟩
   refine⟨bw (n:=[.cell ⟨b1,0,none⟩ (.int .i64 5)]) zk (aG (hs8.cell 0 rfl zk) av),?_⟩
   refine ar.alt ?_ ?_
   ·refine aF Tryz.call41 (ew hs8) ?_
    rintro v13 w14 ⟨rn11,rfl,hs12⟩
    refine⟨bw (n:=[.cell ⟨b1,0,none⟩ (.int .i64 5)]) zk (aG (hs12.cell 0 rfl zk) av),?_⟩
    refine ar.alt ?_ ?_
    ·refine aF Tryz.call42 (cR hs12) ?_
     rintro v17 w18 ⟨wc15,rfl,hs16⟩
     refine⟨bw (n:=[.cell ⟨b1,0,none⟩ (.int .i64 5)]) zk (aG (hs16.cell 0 rfl zk) av),?_⟩
     refine Zr 5 1 [] ?_
     refine ar.alt ?_ ?_
     ·refine ar.box rfl rfl zk (v:=.agg #[.int .i64 5,.int .i64 i,.pointer none,zP wt7 0,.pointer none,.pointer none,.pointer none,zP rn11 0,zP wc15 0,.slice none 0 0,.slice none 0 0,.int .u64 0]) zk hs16 (cs:=#[.int .i64 5,.int .i64 i,.pointer none,zP wt7 0,.pointer none,.pointer none,.pointer none,zP rn11 0,zP wc15 0,.slice none 0 0,.slice none 0 0,.int .u64 0]) zk ?_
      intro b19 w20 hs21
      refine Lo (Dz ?_)
      refine ar.alloc rfl rfl zk (z:=.pointer none) zk hs21 (cs:=#[.pointer none]) zk ?_
      intro b22 w23 hs24
      refine⟨bw (n:=[.cell ⟨b1,0,none⟩ (.int .i64 5)]) zk (aG (hs24.cell 2 rfl zk) av),?_⟩
      refine Zv (b:=b22) (off:=0) (v:=zP b19 0) (ti:=Tryz.t62) zk hs24 0 (cs':=#[zP b19 0]) ?_
      intro w25 hs26
      refine Lo (Ld (Dz ?_))
      refine aw.pick [1,2,4,5,6] (S':=[(1,.int .i64 i),(2,zP b1 0),(4,.pointer none),(5,.int .i64 0),(6,zP b22 0)]) zk ?_
      exact aw.bD (b22,b19,wt7,rn11,wc15) rfl hs26
     refine ar.alloc rfl rfl zk (z:=.pointer none) zk hs16 (cs:=#[.pointer none]) zk ?_
     intro b27 w28 hs29
     refine⟨bw (n:=[.cell ⟨b1,0,none⟩ (.int .i64 5)]) zk (aG (hs29.cell 1 rfl zk) av),?_⟩
     refine ar.box rfl rfl zk (v:=.agg #[.int .i64 5,.int .i64 i,.pointer none,zP wt7 0,.pointer none,.pointer none,.pointer none,zP rn11 0,zP wc15 0,.slice none 0 0,.slice none 0 0,.int .u64 0]) zk hs29 (cs:=#[.int .i64 5,.int .i64 i,.pointer none,zP wt7 0,.pointer none,.pointer none,.pointer none,zP rn11 0,zP wc15 0,.slice none 0 0,.slice none 0 0,.int .u64 0]) zk ?_
     intro b30 w31 hs32
     refine Lo (Dz ?_)
     refine Zv (b:=b27) (off:=0) (v:=zP b30 0) (ti:=Tryz.t62) zk hs32 1 (cs':=#[zP b30 0]) ?_
     intro w33 hs34
     refine Lo (Ld (Dz ?_))
     have hs35:=((hs34.pl 2).pl 1).pl 2
     refine aw.pick [1,2,4,5,6] (S':=[(1,.int .i64 i),(2,zP b1 0),(4,.pointer none),(5,.int .i64 0),(6,zP b27 0)]) zk ?_
     exact aw.bD (b27,b30,wt7,rn11,wc15) rfl hs35
    refine ar.alloc rfl rfl zk (z:=.pointer none) zk hs12 (cs:=#[.pointer none]) zk ?_
    intro b36 w37 hs38
    refine⟨bw (n:=[.cell ⟨b1,0,none⟩ (.int .i64 5)]) zk (aG (hs38.cell 1 rfl zk) av),?_⟩
    refine aF Tryz.call42 (cR hs38) ?_
    rintro v41 w42 ⟨wc39,rfl,hs40⟩
    refine⟨bw (n:=[.cell ⟨b1,0,none⟩ (.int .i64 5)]) zk (aG (hs40.cell 1 rfl zk) av),?_⟩
    refine Zr 5 1 [] ?_
    refine ar.box rfl rfl zk (v:=.agg #[.int .i64 5,.int .i64 i,.pointer none,zP wt7 0,.pointer none,.pointer none,.pointer none,zP rn11 0,zP wc39 0,.slice none 0 0,.slice none 0 0,.int .u64 0]) zk hs40 (cs:=#[.int .i64 5,.int .i64 i,.pointer none,zP wt7 0,.pointer none,.pointer none,.pointer none,zP rn11 0,zP wc39 0,.slice none 0 0,.slice none 0 0,.int .u64 0]) zk ?_
    intro b43 w44 hs45
    refine Lo (Dz ?_)
    refine Zv (b:=b36) (off:=0) (v:=zP b43 0) (ti:=Tryz.t62) zk hs45 1 (cs':=#[zP b43 0]) ?_
    intro w46 hs47
    refine Lo (Ld (Dz ?_))
    have hs48:=((hs47.pl 2).pl 1).pl 2
    refine aw.pick [1,2,4,5,6] (S':=[(1,.int .i64 i),(2,zP b1 0),(4,.pointer none),(5,.int .i64 0),(6,zP b36 0)]) zk ?_
    exact aw.bD (b36,b43,wt7,rn11,wc39) rfl hs48
   refine ar.alloc rfl rfl zk (z:=.pointer none) zk hs8 (cs:=#[.pointer none]) zk ?_
   intro b49 w50 hs51
   refine⟨bw (n:=[.cell ⟨b1,0,none⟩ (.int .i64 5)]) zk (aG (hs51.cell 1 rfl zk) av),?_⟩
   refine aF Tryz.call41 (ew hs51) ?_
   rintro v54 w55 ⟨rn52,rfl,hs53⟩
   refine⟨bw (n:=[.cell ⟨b1,0,none⟩ (.int .i64 5)]) zk (aG (hs53.cell 1 rfl zk) av),?_⟩
   refine aF Tryz.call42 (cR hs53) ?_
   rintro v58 w59 ⟨wc56,rfl,hs57⟩
   refine⟨bw (n:=[.cell ⟨b1,0,none⟩ (.int .i64 5)]) zk (aG (hs57.cell 1 rfl zk) av),?_⟩
   refine Zr 5 1 [] ?_
   refine ar.box rfl rfl zk (v:=.agg #[.int .i64 5,.int .i64 i,.pointer none,zP wt7 0,.pointer none,.pointer none,.pointer none,zP rn52 0,zP wc56 0,.slice none 0 0,.slice none 0 0,.int .u64 0]) zk hs57 (cs:=#[.int .i64 5,.int .i64 i,.pointer none,zP wt7 0,.pointer none,.pointer none,.pointer none,zP rn52 0,zP wc56 0,.slice none 0 0,.slice none 0 0,.int .u64 0]) zk ?_
   intro b60 w61 hs62
   refine Lo (Dz ?_)
   refine Zv (b:=b49) (off:=0) (v:=zP b60 0) (ti:=Tryz.t62) zk hs62 1 (cs':=#[zP b60 0]) ?_
   intro w63 hs64
   refine Lo (Ld (Dz ?_))
   have hs65:=((hs64.pl 2).pl 1).pl 2
   refine aw.pick [1,2,4,5,6] (S':=[(1,.int .i64 i),(2,zP b1 0),(4,.pointer none),(5,.int .i64 0),(6,zP b49 0)]) zk ?_
   exact aw.bD (b49,b60,wt7,rn52,wc56) rfl hs65
  refine ar.alloc rfl rfl zk (z:=.pointer none) zk hs5 (cs:=#[.pointer none]) zk ?_
  intro b66 w67 hs68
  refine⟨bw (n:=[.cell ⟨b1,0,none⟩ (.int .i64 5)]) zk (aG (hs68.cell 1 rfl zk) av),?_⟩
  refine aF Tryz.call40 (fT hs68) ?_
  rintro v71 w72 ⟨wt69,rfl,hs70⟩
  refine⟨bw (n:=[.cell ⟨b1,0,none⟩ (.int .i64 5)]) zk (aG (hs70.cell 1 rfl zk) av),?_⟩
  refine aF Tryz.call41 (ew hs70) ?_
  rintro v75 w76 ⟨rn73,rfl,hs74⟩
  refine⟨bw (n:=[.cell ⟨b1,0,none⟩ (.int .i64 5)]) zk (aG (hs74.cell 1 rfl zk) av),?_⟩
  refine aF Tryz.call42 (cR hs74) ?_
  rintro v79 w80 ⟨wc77,rfl,hs78⟩
  refine⟨bw (n:=[.cell ⟨b1,0,none⟩ (.int .i64 5)]) zk (aG (hs78.cell 1 rfl zk) av),?_⟩
  refine Zr 5 1 [] ?_
  refine ar.box rfl rfl zk (v:=.agg #[.int .i64 5,.int .i64 i,.pointer none,zP wt69 0,.pointer none,.pointer none,.pointer none,zP rn73 0,zP wc77 0,.slice none 0 0,.slice none 0 0,.int .u64 0]) zk hs78 (cs:=#[.int .i64 5,.int .i64 i,.pointer none,zP wt69 0,.pointer none,.pointer none,.pointer none,zP rn73 0,zP wc77 0,.slice none 0 0,.slice none 0 0,.int .u64 0]) zk ?_
  intro b81 w82 hs83
  refine Lo (Dz ?_)
  refine Zv (b:=b66) (off:=0) (v:=zP b81 0) (ti:=Tryz.t62) zk hs83 1 (cs':=#[zP b81 0]) ?_
  intro w84 hs85
  refine Lo (Ld (Dz ?_))
  have hs86:=((hs85.pl 2).pl 1).pl 2
  refine aw.pick [1,2,4,5,6] (S':=[(1,.int .i64 i),(2,zP b1 0),(4,.pointer none),(5,.int .i64 0),(6,zP b66 0)]) zk ?_
  exact aw.bD (b66,b81,wt69,rn73,wc77) rfl hs86
 rintro⟨b87,b88,wt89,rn90,wc91⟩ w92 hs93
 have hs94:St w0 (ah b87 #[zP b88 0] 62::ah b88 #[.int .i64 5,.int .i64 i,.pointer none,zP wt89 0,.pointer none,.pointer none,.pointer none,zP rn90 0,zP wc91 0,.slice none 0 0,.slice none 0 0,.int .u64 0] 112::ah b1 #[.int .i64 5] 3::L) w92:=hs93
 refine aw.cq (S':=[(1,.int .i64 i),(2,zP b1 0),(4,.pointer none),(5,.int .i64 0),(6,zP b87 0)]) rfl ?_
 refine En (Lt (Ls (Lg [0] (Dz ?_))))
 refine ar.alloc rfl rfl zk (z:=.int .i64 0) zk hs94 (cs:=#[.int .i64 0]) zk ?_
 intro b95 w96 hs97
 refine Lo (Ld (Lt (Ls (Ls (Lg [4] (Lu (Dz ?_)))))))
 refine ar.aW rfl zk (t:=76) (e:=1) (n:=4) (ps:=[(0,.func (.func 43) #[] #[zP b1 0,zP b87 0,zP b95 0]),(1,.func (.func 45) #[] #[zP b1 0,zP b87 0,zP b95 0]),(2,.func (.func 47) #[] #[zP b1 0,zP b87 0,zP b95 0]),(3,.func (.func 49) #[] #[zP b1 0,zP b87 0,zP b95 0])]) zk zk (ti:=Tryz.t1) (z:=.nilFunc) zk zk zf zf (cs:=#[.func (.func 43) #[] #[zP b1 0,zP b87 0,zP b95 0],.func (.func 45) #[] #[zP b1 0,zP b87 0,zP b95 0],.func (.func 47) #[] #[zP b1 0,zP b87 0,zP b95 0],.func (.func 49) #[] #[zP b1 0,zP b87 0,zP b95 0]]) zk hs97 ?_
 intro b98 w99 hs100 hz101
 refine Lo (aL (Lt (Lb (Dz ?_))))
 refine aE.dJ 5 ?_
 refine En (Ls (La (Lt (Ls (LT (Lk (Lt (Ls (Lb (Ls (Dz ?_)))))))))))
 refine bj (Hx 0 (0:Int) (4:Int) b98 0 1 (Hl 1 0 0 hs100 Hz)) ?_
 refine En (Lt (Ls (Lg [1] (Lu (Dz ?_)))))
 have hs102:=(((hs100.pl 3).pl 2).pl 3).pl 4
 refine aF Tryz.call43 (tU 5 zf hs102) ?_
 rintro v106 w107 ⟨p103,lg104,rfl,hs105⟩
 refine Lo (Ld (Lt (Ls (Dz ?_))))
 refine bj (Hl 0 2 0 hs105 Hz) ?_
 refine En (Lt (LF (Lk (Lm (Lt (La (Dz ?_)))))))
 refine aw.again ?_
 refine En (Ls (La (Lt (Ls (LT (Lk (Lt (Ls (Lb (Ls (Dz ?_)))))))))))
 refine bj (Hx 0 (1:Int) (4:Int) b98 0 1 (Hl 1 5 1 hs105 Hz)) ?_
 refine En (Lt (Ls (Lg [1] (Lu (Dz ?_)))))
 refine aF Tryz.call45 (yU hs105) ?_
 rintro v111 w112 ⟨lp108,gg109,rfl,hs110⟩
 refine Lo (Ld (Lt (Ls (Dz ?_))))
 refine bj (Hl 0 2 0 hs110 Hz) ?_
 refine En (Lt (LF (Lk (Lm (Lt (La (Dz ?_)))))))
 refine aw.again ?_
 refine En (Ls (La (Lt (Ls (LT (Lk (Lt (Ls (Lb (Ls (Dz ?_)))))))))))
 refine bj (Hx 0 (2:Int) (4:Int) b98 0 1 (Hl 1 6 2 hs110 Hz)) ?_
 refine En (Lt (Ls (Lg [1] (Lu (Dz ?_)))))
 refine aF Tryz.call47 (tV 5 zf hs110) ?_
 rintro v116 w117 ⟨cp113,cr114,rfl,hs115⟩
 refine Lo (Ld (Lt (Ls (Dz ?_))))
 refine bj (Hl 0 2 0 hs115 Hz) ?_
 refine En (Lt (LF (Lk (Lm (Lt (La (Dz ?_)))))))
 refine aw.again ?_
 refine En (Ls (La (Lt (Ls (LT (Lk (Lt (Ls (Lb (Ls (Dz ?_)))))))))))
 refine bj (Hx 0 (3:Int) (4:Int) b98 0 1 (Hl 1 8 3 hs115 Hz)) ?_
 refine En (Lt (Ls (Lg [1] (Lu (Dz ?_)))))
 refine aF Tryz.call49 (tW 5 zf hs115) ?_
 rintro v120 w121 ⟨gp118,rfl,hs119⟩
 refine Lo (Ld (Lt (Ls (Dz ?_))))
 refine bj (Hl 0 2 0 hs119 Hz) ?_
 refine En (Lt (LF (Lk (Lm (Lt (La (Dz ?_)))))))
 refine aw.again ?_
 refine En (Ls (La (Lt (Ls (LF (Lx (gv (gw (Lh (Lt (Ls (Ls (Dz ?_)))))))))))))
 refine aE.join (T:=Unit) (E:=λ_=>[(38,.bool ((decide ((i:Int)<1)) || (decide ((i:Int)>5)))),(4,.pointer none),(5,.int .i64 0),(6,zP b87 0)]) (F:=λ_ w=>St w0 (ah b1 #[.int .i64 5] 3::ah b87 #[zP b88 0] 62::ah b95 #[.int .i64 0] 26::ah b88 #[.int .i64 5,.int .i64 i,zP p103 0,zP wt89 0,zP lp108 0,zP cp113 0,zP gp118 0,zP rn90 0,zP wc91 0,.slice none 0 0,.slice none 0 0,.int .u64 0] 112::ah cp113 #[.int .i64 5,.map (some cr114)] 192::bC iP wa cr114 ([]:List (gU×aO))::LG lp108 0 gg109::LO p103 5 0 lg104::ah b98 #[.func (.func 43) #[] #[zP b1 0,zP b87 0,zP b95 0],.func (.func 45) #[] #[zP b1 0,zP b87 0,zP b95 0],.func (.func 47) #[] #[zP b1 0,zP b87 0,zP b95 0],.func (.func 49) #[] #[zP b1 0,zP b87 0,zP b95 0]] 1::L) w) ?_ ?_
 ·refine Zg [] ?_
  refine Zr 0 3 [] ?_
  rcases Bool.eq_false_or_eq_true (decide ((i:Int)<1)) with h122|h122
  ·refine di 34 true h122 ?_
   have h122':(i:Int)<1:=of_decide_eq_true h122
   exfalso;have hz:=h122;first|omega|(simp at hz;done)|(simp at hz;omega)
  ·refine di 34 false h122 ?_
   have h122':¬ ((i:Int)<1):=of_decide_eq_false h122
   refine gY (Hl 4 0 0 hs119 Hz) ?_
   refine aw.pick [38,4,5,6] (S':=[(38,.bool (decide ((i:Int)>5))),(4,.pointer none),(5,.int .i64 0),(6,zP b87 0)]) zk ?_
   exact aw.bD () (by first|rfl|(simp only [h122,Bool.not_true,Bool.not_false,Bool.true_or,Bool.false_or,Bool.true_and,Bool.false_and,Bool.or_true,Bool.or_false,Bool.and_true,Bool.and_false];done)|(simp [h122];done)) hs119
 intro _ w123 hs124
 refine Zt (?_)
 refine cS (t:=(decide ((i:Int)<1)) || (decide ((i:Int)>5))) (λh125=>?_) (λh125=>?_)
 ·exfalso;have hz:=h125;first|omega|(simp at hz;done)|(simp at hz;omega)
 ·have h125a:(decide ((i:Int)<1))=false:=(Bool.or_eq_false_iff.1 h125).1
  have h125a':¬ ((i:Int)<1):=of_decide_eq_false h125a
  have h125b:(decide ((i:Int)>5))=false:=(Bool.or_eq_false_iff.1 h125).2
  have h125b':¬ ((i:Int)>5):=of_decide_eq_false h125b
  refine Zk (Zt (Zs (?_)))
  refine bj (Hl 0 1 0 hs124 Hz) ?_
  refine Zt (Ze (?_))
  refine jE (v:=zP b88 0) (v':=.int .i64 0) ?_
  have hs126:=((((hs124.pl 5).pl 5).pl 6).pl 7).pl 7
  have hs127:St w0 (RP b88 i 0 (⟨p103,wt89,lp108,cp113,gp118,rn90,wc91,0,lg104,gg109,cr114,([]:List (gU×aO))⟩)::ah b1 #[.int .i64 5] 3::ah b87 #[zP b88 0] 62::ah b95 #[.int .i64 0] 26::ah b98 #[.func (.func 43) #[] #[zP b1 0,zP b87 0,zP b95 0],.func (.func 45) #[] #[zP b1 0,zP b87 0,zP b95 0],.func (.func 47) #[] #[zP b1 0,zP b87 0,zP b95 0],.func (.func 49) #[] #[zP b1 0,zP b87 0,zP b95 0]] 1::L) w123:=Bd.close ⟨Int.le_refl 0,show(0:Int)<=4611686018427387904 by decide⟩ hs126
  have hs128:=((((hs127.pl 0).pl 4).pl 4).pl 4).pl 4
  have hs129:=hs128.dr 4
  exact⟨b88,⟨p103,wt89,lp108,cp113,gp118,rn90,wc91,0,lg104,gg109,cr114,([]:List (gU×aO))⟩,rfl,hs129⟩
theorem iQ {w0 w:World}{L:List aI}{r:Nat}(i:Int) (k:Nat) (rg:rR) (hk:k<=100000) (hs:St w0 (RP r i k rg::L) w):Calls Tryz.prog 27 #[zP r 0] w (aZ λrv w'=>rv=.agg (aD.cells (aA k))/\St w0 (RP r i k rg::L) w'):=by
 obtain⟨p,wt,lp,cp,gp,rn,wc,x,lo,lg,cr,cm⟩:=rg
 obtain⟨hg2,hs10⟩:=Bd.open hs
 have hs1:St w0 (ah r #[.int .i64 5,.int .i64 i,zP p 0,zP wt 0,zP lp 0,zP cp 0,zP gp 0,zP rn 0,zP wc 0,.slice none 0 0,.slice none 0 0,.int .u64 x] 112::LO p 5 k lo::LG lp k lg::ah cp #[.int .i64 5,.map (some cr)] 192::bC iP wa cr cm::L) w:=hs10
 have hx:0<=x/\x<=4611686018427387904:=hg2
 refine bp Tryz.func27 Tryz.ntmps27 ?_
 refine En (Ls (Lg [0] (Dz ?_)))
 refine ar.alloc rfl rfl zk (z:=.agg (aD.cells mw)) zk hs1 (cs:=aD.cells mw) zk ?_
 intro b3 w4 hs5
 refine Lo (Ld (Lt (Ls (Ls (La (Lt (LF (Lk (Lt (Ls (Dz ?_)))))))))))
 refine bL [4,5] (Hl 3 1 2 hs5 Hz) ?_
 have hs6:=hs5.pl 2
 refine aF Tryz.call69 (gB 5 k lo zc hs6) ?_
 rintro v8 w9 ⟨rfl,hs7⟩
 refine Lo (Dz ?_)
 refine Zv (b:=b3) (off:=0) (v:=.agg (aD.cells (aA k))) (ti:=Tryz.t41) zk hs7 1 (cs':=aD.cells (aA k)) ?_
 intro w10 hs11
 refine Lo (Ld (Lt (Le (Dz ?_))))
 refine aw.done (.inl rfl) (v:=.agg (aD.cells (aA k))) (λa hf=>ct rfl zk (ti:=Tryz.t41) zk zk (vs:=aD.cells (aA k)) zk (hs11.cells 1 0 rfl zk) a hf) ?_
 have hs12:=((((hs11.pl 5).pl 5).pl 5).pl 3).pl 5
 have hs13:St w0 (RP r i k (⟨p,wt,lp,cp,gp,rn,wc,x,lo,lg,cr,cm⟩)::ah b3 (aD.cells (aA k)) 41::L) w10:=Bd.close hx hs12
 have hs14:=(hs13.pl 0).pl 1
 have hs15:=hs14.dr 1
 exact⟨rfl,hs15⟩
theorem rS {w0 w:World}{L:List aI}{r:Nat}(i:Int) (rg:rR) (hs:St w0 (RQ r i rg::L) w):Calls Tryz.prog 27 #[zP r 0] w (aZ λrv w'=>rv=.agg (aD.cells (aA 0))/\St w0 (RQ r i rg::L) w'):=by
 obtain⟨hg2,hs10⟩:=Bd.open hs
 have hs1:St w0 (ah r #[.int .i64 3,.int .i64 i,zP rg.p 0,zP rg.wt 0,zP rg.lp 0,zP rg.cp 0,zP rg.gp 0,zP rg.rn 0,zP rg.wc 0,.slice none 0 0,.slice none 0 0,.int .u64 rg.x] 112::LO rg.p 3 0 rg.lo::L) w:=hs10
 refine bp Tryz.func27 Tryz.ntmps27 ?_
 refine En (Ls (Lg [0] (Dz ?_)))
 refine ar.alloc rfl rfl zk (z:=.agg (aD.cells mw)) zk hs1 (cs:=aD.cells mw) zk ?_
 intro b3 w4 hs5
 refine Lo (Ld (Lt (Ls (Ls (La (Lt (LF (Lk (Lt (Ls (Dz ?_)))))))))))
 refine bL [4,5] (Hl 3 1 2 hs5 Hz) ?_
 have hs6:=hs5.pl 2
 refine aF Tryz.call69 (gB 3 0 rg.lo zc hs6) ?_
 rintro v8 w9 ⟨rfl,hs7⟩
 refine Lo (Dz ?_)
 refine Zv (b:=b3) (off:=0) (v:=.agg (aD.cells (aA 0))) (ti:=Tryz.t41) zk hs7 1 (cs':=aD.cells (aA 0)) ?_
 intro w10 hs11
 refine Lo (Ld (Lt (Le (Dz ?_))))
 refine aw.done (.inl rfl) (v:=.agg (aD.cells (aA 0))) (λa hf=>ct rfl zk (ti:=Tryz.t41) zk zk (vs:=aD.cells (aA 0)) zk (hs11.cells 1 0 rfl zk) a hf) ?_
 have hs12:=(hs11.pl 0).pl 2
 have hs13:St w0 (RQ r i rg::ah b3 (aD.cells (aA 0)) 41::L) w10:=Bd.close trivial hs12
 have hs14:=(hs13.pl 0).pl 1
 have hs15:=hs14.dr 1
 exact⟨rfl,hs15⟩
theorem Da {x:aK}(h:eo x=true) (hk:x.kd=6):1<=x.k/\x.k<=4611686018427387904:=by
 unfold eo at h
 rw [if_neg za,if_pos (.inr hk)] at h
 simpa only [kB,Bool.and_eq_true,decide_eq_true_eq] using h
theorem mN {w0 w:World}{L:List aI}{r:Nat}(k:Nat) (bd:aK) (tg:aO) (i:Int) (rg:rR) (hm:fa (⟨2,((k:Nat)+1),aA k,bd,tg⟩:an)) (hmay:cZ (⟨2,((k:Nat)+1),aA k,bd,tg⟩:an)=true) (hq5:(bd.ql.any (λq=>decide ((q.rp:Int)>5)))=false) (hqs:Nn bd.qa bd.qc) (hri:fl (⟨2,((k:Nat)+1),aA k,bd,tg⟩:an)=true) (hTab:∀ w,St w0 L w->cQ w) (hr:∀ w,St w0 L w->ag w bd.qa bd.ql.length 2 (λk=>aT.cells (bd.ql.getD k aR))) (hs:St w0 (RP r i k rg::L) w):Calls Tryz.prog 64 #[zP r 0,.agg (an.cells (⟨2,((k:Nat)+1),aA k,bd,tg⟩:an))] w (aZ λrv w'=>∃ (rg2:rR),rv=.int .i64 0/\St w0 (RP r i (k+1) rg2::L) w'):=by
 have hmb:eo bd=true:=xz hmay
 obtain⟨p,wt,lp,cp,gp,rn,wc,x,lo,lg,cr,cm⟩:=rg
 obtain⟨hg2,hs10⟩:=Bd.open hs
 have hs1:St w0 (ah r #[.int .i64 5,.int .i64 i,zP p 0,zP wt 0,zP lp 0,zP cp 0,zP gp 0,zP rn 0,zP wc 0,.slice none 0 0,.slice none 0 0,.int .u64 x] 112::LO p 5 k lo::LG lp k lg::ah cp #[.int .i64 5,.map (some cr)] 192::bC iP wa cr cm::L) w:=hs10
 have hx:0<=x/\x<=4611686018427387904:=hg2
 refine bp Tryz.func64 Tryz.ntmps64 ?_
 refine En (Ls (Lg [0] (Dz ?_)))
 refine ar.box rfl rfl zk (v:=.agg (an.cells (⟨2,((k:Nat)+1),aA k,bd,tg⟩:an))) zk hs1 (cs:=an.cells (⟨2,((k:Nat)+1),aA k,bd,tg⟩:an)) zk ?_
 intro b3 w4 hs5
 refine Lo (aL (Lt (Ls (Ls (La (Lt (LF (Lk (Lt (Ls (Ls (Dz ?_))))))))))))
 refine aE.aV [0,1,3,7,0,31,63] (.rd 0 (.rd 1 (.rd 2 (.rd 3 (.rd 4 (.ef 5 (.rd 6 .done))))))) zk zk ai zk hs5 ?_
 intro w6 hs7 hw8
 refine Zj (Hl 3 1 2 hs7 (du 4 0 0 121 (an.cells (⟨2,((k:Nat)+1),aA k,bd,tg⟩:an)) hs7 Hz)) ?_
 have hs9:=hs7.pl 2
 refine aF Tryz.call102 (vX k bd tg lo hm hmay hq5 hqs hri (λw h=>hTab w (h.drop 5)) (λw h=>hr _ (h.drop 5)) hs9) ?_
 rintro v12 w13 ⟨lg10,rfl,hs11⟩
 refine Lo (aL (Lt (Ls (La (Lt (LF (Lk (Lt (Ls (Dz ?_))))))))))
 refine aE.aV [0,1,3,7,0,31] (.rd 0 (.rd 1 (.rd 2 (.rd 3 (.rd 4 (.ef 5 .done)))))) zk zk ai zk hs11 ?_
 intro w14 hs15 hw16
 refine Zj (Hl 3 2 4 hs15 (du 4 1 0 121 (an.cells (⟨2,((k:Nat)+1),aA k,bd,tg⟩:an)) hs15 Hz)) ?_
 have hs17:=hs15.pl 3
 refine aF Tryz.call103 (tQ k bd tg lg hm hmay hq5 hqs (λw h=>hr _ (h.drop 5)) hs17) ?_
 rintro v21 w22 ⟨ob18,gg19,rfl,hs20⟩
 refine Lo (Ld (Lt (Ls (Dz ?_))))
 refine aE.aV [0,1,3,7,0,31] (.rd 0 (.rd 1 (.rd 2 (.rd 3 (.rd 4 (.ef 5 .done)))))) zk zk ai zk hs20 ?_
 intro w23 hs24 hw25
 refine Zj (Hl 3 3 5 hs24 (du 4 2 0 121 (an.cells (⟨2,((k:Nat)+1),aA k,bd,tg⟩:an)) hs24 Hz)) ?_
 have hs26:=(hs24.pl 5).pl 5
 refine aF Tryz.call104 (tT k bd tg cm hm hmay hq5 hqs (λw h=>hr _ (h.drop 4)) hs26) ?_
 rintro v30 w31 ⟨ob27,cm28,rfl,hs29⟩
 refine Lo (Ld (Lt (Ls (Ls (Dz ?_)))))
 refine aE.join (T:=Unit) (E:=λ_=>[(52,.bool ((((2:Int) == i) && ((bd.kd:Int) == 6)) && ((bd.k:Int) == (x+4)))),(4,.int .i64 0),(3,zP b3 0),(0,zP r 0)]) (F:=λ_ w=>St w0 (ah cp #[.int .i64 5,.map (some cr)] 192::bC iP wa cr cm28::LG lp (k+1) gg19::LO p 5 (k+1) lg10::ah b3 (an.cells (⟨2,((k:Nat)+1),aA k,bd,tg⟩:an)) 43::ah r #[.int .i64 5,.int .i64 i,zP p 0,zP wt 0,zP lp 0,zP cp 0,zP gp 0,zP rn 0,zP wc 0,.slice none 0 0,.slice none 0 0,.int .u64 x] 112::L) w) ?_ ?_
 ·refine aE.aV [0,1,0,4,12,28,63,127,255,511,1023,2047,4095,8191,16383,32767,65535,16383,147455,409599,933887,1982463,4194303,8388607] (.rd 0 (.rd 1 (.rd 2 (.rd 3 (.rd 4 (.rd 5 (.rd 6 (.rd 7 (.rd 8 (.rd 9 (.rd 10 (.rd 11 (.rd 12 (.rd 13 (.rd 14 (.rd 15 (.rd 16 (.rd 17 (.rd 18 (.rd 19 (.rd 20 (.rd 21 (.rd 22 (.rd 23 .done)))))))))))))))))))))))) zk zk ai zk hs29 ?_
  intro w32 hs33 hw34
  refine Zp 0 8 [(1,.gen [.int .i64 2]),(5,.gen [.int .i64 i])] [(1,[.cell ⟨b3,0,none⟩ (.int .i64 2)]),(5,[.cell ⟨r,1,none⟩ (.int .i64 i)])] (ak (aG (hs33.cell 4 rfl zk) av) (ak (aG (hs33.cell 5 rfl zk) av) cW)) ?_
  rcases Bool.eq_false_or_eq_true ((2:Int) == i) with h35|h35
  ·refine di 36 true h35 ?_
   have h35':(2:Int)=i:=dt h35
   refine Zp 8 6 [(10,.gen [.int .u8 bd.kd])] [(10,[.cell ⟨b3,13,none⟩ (.int .u8 bd.kd)])] (ak (aG (hs33.cell 4 rfl zk) av) cW) ?_
   rcases Bool.eq_false_or_eq_true ((bd.kd:Int) == 6) with h36|h36
   ·refine di 42 true h36 ?_
    have h36':(bd.kd:Int)=6:=dt h36
    refine gY (Hl 16 4 15 hs33 (Hl 20 5 11 hs33 (qU 21 (x+4) Hz))) ?_
    refine aw.pick [52,4,3,0] (S':=[(52,.bool ((bd.k:Int) == (x+4))),(4,.int .i64 0),(3,zP b3 0),(0,zP r 0)]) zk ?_
    exact aw.bD () (by first|rfl|(simp only [h35,h36,Bool.not_true,Bool.not_false,Bool.true_or,Bool.false_or,Bool.true_and,Bool.false_and,Bool.or_true,Bool.or_false,Bool.and_true,Bool.and_false];done)|(simp [h35,h36];done)) hs33
   ·refine di 42 false h36 ?_
    have h36':¬ ((bd.kd:Int)=6):=dH h36
    refine En (aL (Dz ?_))
    refine aw.pick [52,4,3,0] (S':=[(52,.bool false),(4,.int .i64 0),(3,zP b3 0),(0,zP r 0)]) zk ?_
    exact aw.bD () (by first|rfl|(simp only [h35,h36,Bool.not_true,Bool.not_false,Bool.true_or,Bool.false_or,Bool.true_and,Bool.false_and,Bool.or_true,Bool.or_false,Bool.and_true,Bool.and_false];done)|(simp [h35,h36];done)) hs33
  ·refine di 36 false h35 ?_
   have h35':¬ ((2:Int)=i):=dH h35
   refine En (aL (Dz ?_))
   refine aw.pick [52,4,3,0] (S':=[(52,.bool false),(4,.int .i64 0),(3,zP b3 0),(0,zP r 0)]) zk ?_
   exact aw.bD () (by first|rfl|(simp only [h35,Bool.not_true,Bool.not_false,Bool.true_or,Bool.false_or,Bool.true_and,Bool.false_and,Bool.or_true,Bool.or_false,Bool.and_true,Bool.and_false];done)|(simp [h35];done)) hs33
 intro _ w37 hs38
 refine Zt (?_)
 refine cS (t:=(((2:Int) == i) && ((bd.kd:Int) == 6)) && ((bd.k:Int) == (x+4))) (λh39=>?_) (λh39=>?_)
 ·have h39a:(((2:Int) == i) && ((bd.kd:Int) == 6))=true:=(Bool.and_eq_true_iff.1 h39).1
  have h39aa:((2:Int) == i)=true:=(Bool.and_eq_true_iff.1 h39a).1
  have h39aa':(2:Int)=i:=dt h39aa
  have h39ab:((bd.kd:Int) == 6)=true:=(Bool.and_eq_true_iff.1 h39a).2
  have h39ab':(bd.kd:Int)=6:=dt h39ab
  have h39b:((bd.k:Int) == (x+4))=true:=(Bool.and_eq_true_iff.1 h39).2
  have h39b':(bd.k:Int)=(x+4):=dt h39b
  refine bL [6] (Hl 3 4 15 hs38 Hz) ?_
  refine Zv (b:=r) (off:=11) (v:=.int .u64 bd.k) (ti:=Tryz.t31) zk hs38 5 (cs':=#[.int .i64 5,.int .i64 i,zP p 0,zP wt 0,zP lp 0,zP cp 0,zP gp 0,zP rn 0,zP wc 0,.slice none 0 0,.slice none 0 0,.int .u64 bd.k]) ?_
  intro w40 hs41
  refine Lo (Ld (Lt (Ls (La (Lt (Le (Dz ?_)))))))
  refine bg (v:=.int .i64 0) ?_
  have hs42:=((((hs41.pl 1).pl 1).pl 2).pl 3).pl 5
  have hs43:St w0 (RP r i (k+1) (⟨p,wt,lp,cp,gp,rn,wc,bd.k,lg10,gg19,cr,cm28⟩)::ah b3 (an.cells (⟨2,((k:Nat)+1),aA k,bd,tg⟩:an)) 43::L) w40:=Bd.close (by have h6:=h39;simp only [Bool.and_eq_true,beq_iff_eq] at h6;have h7:=Da hmb h6.1.2;exact⟨by show 0<=bd.k;omega,h7.2⟩) hs42
  have hs44:=(hs43.pl 0).pl 1
  have hs45:=hs44.dr 1
  exact⟨⟨p,wt,lp,cp,gp,rn,wc,bd.k,lg10,gg19,cr,cm28⟩,rfl,hs45⟩
 ·refine En (Lk (Lt (Ls (La (Lt (Le (Dz ?_)))))))
  refine bg (v:=.int .i64 0) ?_
  have hs46:=((((hs38.pl 1).pl 1).pl 2).pl 3).pl 5
  have hs47:St w0 (RP r i (k+1) (⟨p,wt,lp,cp,gp,rn,wc,x,lg10,gg19,cr,cm28⟩)::ah b3 (an.cells (⟨2,((k:Nat)+1),aA k,bd,tg⟩:an)) 43::L) w37:=Bd.close hx hs46
  have hs48:=(hs47.pl 0).pl 1
  have hs49:=hs48.dr 1
  exact⟨⟨p,wt,lp,cp,gp,rn,wc,x,lg10,gg19,cr,cm28⟩,rfl,hs49⟩
structure uo (k:Nat) (bd:aK) (tg:aO):Prop where
 ok:fa (⟨2,((k:Nat)+1),aA k,bd,tg⟩:an)
 may:cZ (⟨2,((k:Nat)+1),aA k,bd,tg⟩:an)=true
 q5:(bd.ql.any (λq=>decide ((q.rp:Int)>5)))=false
 tag:tg=eM 2 ((k:Nat)+1) (gj (⟨2,((k:Nat)+1),aA k,bd,tg⟩:an))
theorem uo.right {k:Nat}{bd:aK}{tg:aO}(h:uo k bd tg):fl (⟨2,((k:Nat)+1),aA k,bd,tg⟩:an)=true:=by
 unfold fl
 rw [if_pos h.may]
 exact decide_eq_true h.tag
theorem tX (og nr:Int) (dp:aD) (b:aK) (tg tg2:aO):cZ ⟨og,nr,dp,ij b,tg2⟩=cZ ⟨og,nr,dp,b,tg⟩:=rfl
theorem Db {a b:aK}(h:ij a=ij b):a.ql=b.ql:=by
 have t:=congrArg aK.ql h
 exact t
theorem uo.Dc {k:Nat}{bd b2:aK}{tg:aO}(h:uo k bd tg) (hc:ij b2=ij bd) (hm:fa ⟨2,(k:Nat)+1,aA k,b2,tg⟩):uo k b2 tg:=by
 refine⟨hm,?_,?_,?_⟩
 ·rw [<- tX _ _ _ b2 tg tg,hc,tX _ _ _ bd tg tg]
  exact h.may
 ·rw [Db hc]
  exact h.q5
 ·have e:gj (⟨2,(k:Nat)+1,aA k,b2,tg⟩:an)=gj (⟨2,(k:Nat)+1,aA k,bd,tg⟩:an):=by
   show gj (⟨2,(k:Nat)+1,aA k,ij b2,tg⟩:an)=gj (⟨2,(k:Nat)+1,aA k,ij bd,tg⟩:an)
   rw [hc]
  rw [e]
  exact h.tag
def xB (k:Nat) (r:List Int):Prop:=∃ bd tg,uo k bd tg/\r=fI (⟨2,((k:Nat)+1),aA k,bd,tg⟩:an)
def pH (rs:List (List Int)):Prop:=∀ j,j<rs.length->xB j (rs.getD j [])
theorem pH.nil:pH []:=λj h=>absurd h (Nat.not_lt_zero _)
theorem pH.app {rs:List (List Int)}{r:List Int}(h:pH rs) (hr:xB rs.length r):pH (rs++[r]):=by
 intro j hj
 rw [List.getD_eq_getElem?_getD]
 rcases Nat.lt_or_ge j rs.length with h1|h1
 ·rw [List.getElem?_append_left h1,<- List.getD_eq_getElem?_getD]
  exact h j h1
 ·rw [List.length_append,List.length_cons,List.length_nil] at hj
  obtain rfl:j=rs.length:=za
  rw [List.getElem?_append_right (Nat.le_refl _),Nat.sub_self]
  exact hr
theorem xB.len {k:Nat}{r:List Int}(h:xB k r):r.length<=740:=by
 obtain⟨bd,tg,hg,rfl⟩:=h
 exact sS hg.may
theorem xB.Dk {k:Nat}{r:List Int}(h:xB k r):∀ z∈r,0<=z/\z<256:=by
 obtain⟨bd,tg,hg,rfl⟩:=h
 unfold fI
 rw [if_pos hg.may]
 exact fE.app (fE.app (fE.app fE.nil (eC _)) (nc hg.ok)) hg.ok.tg
theorem xB.get {k:Nat}{r:List Int}(h:xB k r){mm:an}{ee:Int}(he:getM r=(sR mm,ee)) (hok:fa mm):ee=0/\∃ bd tg,mm=(⟨2,((k:Nat)+1),aA k,bd,tg⟩:an)/\uo k bd tg:=by
 obtain⟨bd,tg,hg,rfl⟩:=h
 rw [yg hg.may hg.ok] at he
 obtain⟨og,nr,dp,b2,t2⟩:=mm
 have e1:sR (⟨2,((k:Nat)+1),aA k,bd,tg⟩:an)=sR ⟨og,nr,dp,b2,t2⟩:=congrArg Prod.fst he
 have e2:(0:Int)=ee:=congrArg Prod.snd he
 have q1:2=og:=by have t:=congrArg an.og e1;exact t
 have q2:((k:Nat):Int)+1=nr:=by have t:=congrArg an.nr e1;exact t
 have q3:aA k=dp:=by have t:=congrArg an.dp e1;exact t
 have q4:ij bd=ij b2:=by have t:=congrArg an.bd e1;exact t
 have q5:tg=t2:=by have t:=congrArg an.tg e1;exact t
 subst q1 q2 q3 q5
 exact⟨e2.symm,b2,tg,rfl,hg.Dc q4.symm hok⟩
theorem xB.Dd {k:Nat}{r:List Int}(h:xB k r):r.length<=100000:=Nat.le_trans h.len zf
theorem yV {w0 w:World}{L:List aI}{ad:Option Addr}{cb:Nat}(k:Nat) (l:List Int) (hG:xB k l) (hr:∀ w,St w0 L w->ag w ad l.length 1 (λk=>af (l.getD k 0))) (hs:St w0 L w):Calls Tryz.prog 63 #[.slice ad l.length cb] w (aZ λrv w'=>∃ (qd:aK) (tg2:aO),rv=.tuple #[.agg (an.cells (⟨2,((k:Nat)+1),aA k,qd,tg2⟩:an)),.int .i64 0]/\uo k qd tg2/\St w0 (Sl qd.qa qd.qc 81 2 aT.cells qd.ql::L) w'):=by
 refine Calls.ret (ye l hG.Dd hG.Dk hr hs) ?_
 rintro v w2 ⟨mm,ee,rfl,he,hok,h⟩
 obtain⟨rfl,qd,tg2,rfl,hgd⟩:=hG.get he hok
 exact⟨qd,tg2,rfl,hgd,h⟩
theorem lG {w0 w:World}{L:List aI}{d:Nat}{D:Nat->aC}{nk:Nat}{g:et}(hk:nk<800) (hs:St w0 (DK d D nk g::L) w):Calls Tryz.prog 6 #[zP d 0] w (aZ λrv w'=>∃ (dq2:Nat->aC) (gd2:et),rv=.int .i64 0/\bz dq2 0 0 2 []/\bz dq2 20 0 2 []/\(∀ a,40<=a->dq2 a=D a)/\St w0 (DK d dq2 0 gd2::L) w'):=by
 refine bp Tryz.func6 Tryz.ntmps6 ?_
 refine En (Ls (La (Lt (Ls (Ls (Lg [1] (Lu (Dz ?_))))))))
 refine aF Tryz.call13 (rK 0 zf zc hs) ?_
 rintro v3 w4 ⟨gd1,rfl,hs2⟩
 refine Lo (aL (Lt (Ls (La (Lt (LF (Lk (Lt (Ls (Lg [1] (Lu (Dz ?_))))))))))))
 refine aF Tryz.call14 (rL 20 zf zf hs2) ?_
 rintro v7 w8 ⟨gd5,rfl,hs6⟩
 refine Lo (aL (Lt (Le (Dz ?_))))
 refine bg (v:=.int .i64 0) ?_
 exact⟨fo (fo (fo (fo D (0+(0*10)) 2 [] 10) (0+(1*10)) 1 [] 10) (20+(0*10)) 2 [] 10) (20+(1*10)) 1 [] 10,gd5,rfl,(bz.fresh (D:=D) (at_:=0) |>.congr λa h1 h2=>by rw [fL za,fL za]),bz.fresh,(λa h=>by rw [fL za,fL za,fL za,fL za]),hs6⟩
theorem Bb {w0 w:World}{L:List aI}{nb:Nat}{ib:Nat}{uc:Nat}{eb:Nat}{u:Nat}(hs:St w0 (ah nb #[.int .i64 5] 3::ah ib #[.int .i64 2] 3::ah uc #[zP u 0] 28::ah eb #[.int .i64 0] 26::ah u CG 66::L) w):Calls Tryz.prog 15 #[zP nb 0,zP ib 0,zP uc 0,zP eb 0] w (aZ λrv w'=>∃ (r:Nat) (rg2:rR),rv=.tuple #[]/\St w0 (ah nb #[.int .i64 5] 3::ah ib #[.int .i64 2] 3::ah uc #[zP u 0] 28::ah eb #[.int .i64 0] 26::ah u #[.int .i64 5,.int .i64 2,zP r 0,.pointer none,.pointer none,.int .i64 0] 66::RP r 2 0 rg2::L) w'):=by
 refine bp Tryz.func15 Tryz.ntmps15 ?_
 refine aE.aV [0,0,0,6,14,30,30,63,191,447,1023] (.rd 0 (.rd 1 (.rd 2 (.ef 3 (.rd 4 (.rd 5 (.rd 6 (.rd 7 (.rd 8 (.ef 9 (.ef 10 .done))))))))))) zk zk ai zk hs ?_
 intro w1 hs2 hw3
 refine Zj (Hl 0 2 0 hs2 (Hl 1 0 0 hs2 (Hl 2 1 0 hs2 Hz))) ?_
 refine aF Tryz.call16 (kD 2 zf hs2) ?_
 rintro v7 w8 ⟨r4,rg5,rfl,hs6⟩
 refine⟨bw (n:=[.cell ⟨uc,0,none⟩ (zP u 0)]) zk (aG (hs6.cell 3 rfl zk) av),?_⟩
 refine En (Lu (Dz ?_))
 refine Zv (b:=u) (off:=2) (v:=zP r4 0) (ti:=Tryz.t62) zk hs6 5 (cs':=#[.int .i64 5,.int .i64 2,zP r4 0,.pointer none,.pointer none,.int .i64 0]) ?_
 intro w9 hs10
 refine Lo (Dz ?_)
 refine Zv (b:=eb) (off:=0) (v:=.int .i64 0) (ti:=Tryz.t26) zk hs10 4 (cs':=#[.int .i64 0]) ?_
 intro w11 hs12
 refine Lo (Ld (Dz ?_))
 refine aw.done (.inr rfl) (λa hf=>results0 rfl a hf) ?_
 have hs13:=(((((hs12.pl 0).pl 5).pl 5).pl 5).pl 5).pl 5
 exact⟨r4,rg5,rfl,hs13⟩
theorem Bc {w0 w:World}{L:List aI}{ib:Nat}{db:Nat}{uc:Nat}{eb:Nat}{u:Nat}{r:Nat}{d:Nat}{D:Nat->aC}{nk:Nat}{g:et}(wq:Nat) (c:Int) (hci:bz D 0 wq c (dy 0 ([]:List Int))) (hTab:∀ w,St w0 L w->cQ w) (hs:St w0 (ah ib #[.int .i64 2] 3::ah db #[zP d 0] 24::ah uc #[zP u 0] 28::ah eb #[.int .i64 0] 26::ah u #[.int .i64 5,.int .i64 2,zP r 0,.pointer none,.pointer none,.int .i64 0] 66::DK d D nk g::L) w):Calls Tryz.prog 17 #[zP ib 0,zP db 0,zP uc 0,zP eb 0] w (aZ λrv w'=>∃ (ub:Nat) (cb:Nat) (ao:Option Addr) (co:Nat) (ab:Option Addr) (bc:Nat),rv=.tuple #[]/\St w0 (ah ib #[.int .i64 2] 3::ah db #[zP d 0] 24::ah uc #[zP u 0] 28::ah eb #[.int .i64 0] 26::ah u #[.int .i64 5,.int .i64 2,zP r 0,zP ub 0,.pointer none,.int .i64 0] 66::ah ub #[zP cb 0,.int .i64 2,.int .u64 0,.slice ab (([]:List Int).length) bc] 126::ah cb #[zP d 0,.int .i64 (0:Nat),.slice ao ((dy 0 ([]:List Int)).length) co,.int .i64 (wq:Nat),.bool false] 197::Sl ab bc 5 1 af ([]:List Int)::DK d D nk g::L) w'):=by
 refine bp Tryz.func17 Tryz.ntmps17 ?_
 refine aE.aV [0,0,0,6,14,30,30,63,191,447,1023] (.rd 0 (.rd 1 (.rd 2 (.ef 3 (.rd 4 (.rd 5 (.rd 6 (.rd 7 (.rd 8 (.ef 9 (.ef 10 .done))))))))))) zk zk ai zk hs ?_
 intro w1 hs2 hw3
 refine Zj (Hl 0 2 0 hs2 (Hl 1 0 0 hs2 (Hl 2 1 0 hs2 Hz))) ?_
 have hs4:=hs2.pl 5
 refine aF Tryz.call18 (qD 0 wq c 2 0 ([]:List Int) zf zf zf (λ_=>rfl) zf zf (λz hz=>by cases hz) hci (λw h=>hTab w (h.drop 5)) hs4) ?_
 rintro v12 w13 ⟨ub5,cb6,ao7,co8,ab9,bc10,rfl,hs11⟩
 refine⟨bw (n:=[.cell ⟨uc,0,none⟩ (zP u 0)]) zk (aG (hs11.cell 6 rfl zk) av),?_⟩
 refine En (Lu (Dz ?_))
 refine Zv (b:=u) (off:=3) (v:=zP ub5 0) (ti:=Tryz.t63) zk hs11 8 (cs':=#[.int .i64 5,.int .i64 2,zP r 0,zP ub5 0,.pointer none,.int .i64 0]) ?_
 intro w14 hs15
 refine Lo (Dz ?_)
 refine Zv (b:=eb) (off:=0) (v:=.int .i64 0) (ti:=Tryz.t26) zk hs15 7 (cs':=#[.int .i64 0]) ?_
 intro w16 hs17
 refine Lo (Ld (Dz ?_))
 refine aw.done (.inr rfl) (λa hf=>results0 rfl a hf) ?_
 have hs18:=((((((((hs17.pl 3).pl 3).pl 3).pl 3).pl 8).pl 8).pl 8).pl 8).pl 8
 exact⟨ub5,cb6,ao7,co8,ab9,bc10,rfl,hs18⟩
theorem Be {w0 w:World}{L:List aI}{db:Nat}{uc:Nat}{rb:Nat}{eb:Nat}{u:Nat}{r:Nat}{ub:Nat}{d:Nat}{D:Nat->aC}{nk:Nat}{g:et}(wq:Nat) (c:Int) (hci:bz D 20 wq c (iz 0)) (hbk:eQ D (20+20) 0 []) (hcc:c+1<8000000000000000000) (hk:nk<800) (hs:St w0 (ah db #[zP d 0] 24::ah uc #[zP u 0] 28::ah rb #[.slice none 0 0] 67::ah eb #[.int .i64 0] 26::ah u #[.int .i64 5,.int .i64 2,zP r 0,zP ub 0,.pointer none,.int .i64 0] 66::DK d D nk g::L) w):Calls Tryz.prog 19 #[zP db 0,zP uc 0,zP rb 0,zP eb 0] w (aZ λrv w'=>∃ (bk:Nat) (ra:Option Addr) (rc:Nat) (dq2:Nat->aC) (gd2:et),rv=.tuple #[]/\bz dq2 20 (1-wq) (c+1) (iz 1)/\(∀ a,(a<20\/20+20<=a)->dq2 a=D a)/\St w0 (ah db #[zP d 0] 24::ah uc #[zP u 0] 28::ah rb #[.slice ra 0 rc] 67::ah eb #[.int .i64 0] 26::ah u #[.int .i64 5,.int .i64 2,zP r 0,zP ub 0,zP bk 0,.int .i64 0] 66::ah bk #[zP d 0,.int .i64 (40:Nat),.int .i64 (8212:Nat),.int .u64 1,.int .i64 0,.bool false] 138::DK d dq2 0 gd2::L) w'):=by
 refine bp Tryz.func19 Tryz.ntmps19 ?_
 refine aE.aV [0,0,2,6,14,14,14,31,159,415,959,2047] (.rd 0 (.rd 1 (.ef 2 (.rd 3 (.rd 4 (.rd 5 (.rd 6 (.rd 7 (.rd 8 (.ef 9 (.ef 10 (.ef 11 .done)))))))))))) zk zk ai zk hs ?_
 intro w1 hs2 hw3
 refine Zj (Hl 0 1 0 hs2 (Hl 1 0 0 hs2 Hz)) ?_
 have hs4:=hs2.pl 5
 refine aF Tryz.call20 (vS 20 wq c 8192 zK zK zK zK hk hci hbk hs4) ?_
 rintro v15 w16 ⟨bk5,ll6,ra7,rc8,dq9,gd10,rfl,hll11,hci212,hout13,hs14⟩
 refine⟨bw (n:=[.cell ⟨uc,0,none⟩ (zP u 0)]) zk (aG (hs14.cell 3 rfl zk) av),?_⟩
 refine En (Lu (Dz ?_))
 refine Zv (b:=u) (off:=4) (v:=zP bk5 0) (ti:=Tryz.t64) zk hs14 6 (cs':=#[.int .i64 5,.int .i64 2,zP r 0,zP ub 0,zP bk5 0,.int .i64 0]) ?_
 intro w17 hs18
 refine Lo (Dz ?_)
 refine Zv (b:=rb) (off:=0) (v:=.slice ra7 ll6.length rc8) (ti:=Tryz.t67) zk hs18 4 (cs':=#[.slice ra7 ll6.length rc8]) ?_
 intro w19 hs20
 refine Lo (Dz ?_)
 refine Zv (b:=eb) (off:=0) (v:=.int .i64 0) (ti:=Tryz.t26) zk hs20 5 (cs':=#[.int .i64 0]) ?_
 intro w21 hs22
 refine Lo (Ld (Dz ?_))
 refine aw.done (.inr rfl) (λa hf=>results0 rfl a hf) ?_
 obtain rfl:ll6=[]:=List.map_eq_nil_iff.1 hll11
 have hs23:St w0 (ah bk5 #[zP d 0,.int .i64 (40:Nat),.int .i64 (8212:Nat),.int .u64 1,.int .i64 0,.bool false] 138::DK d dq9 0 gd10::ah db #[zP d 0] 24::ah uc #[zP u 0] 28::ah rb #[.slice ra7 0 rc8] 67::ah eb #[.int .i64 0] 26::ah u #[.int .i64 5,.int .i64 2,zP r 0,zP ub 0,zP bk5 0,.int .i64 0] 66::L) w21:=hs22
 have hs24:=((((((hs23.pl 1).pl 1).pl 6).pl 6).pl 6).pl 6).pl 6
 exact⟨bk5,ra7,rc8,dq9,gd10,rfl,hci212,hout13,hs24⟩
theorem rT {w0 w:World}{L:List aI}{u:Nat}{rc:Nat}{ra:Option Addr}(hs:St w0 L w):Calls Tryz.prog 22 #[zP u 0,.slice ra 0 rc] w (aZ λrv w'=>rv=.int .i64 0/\St w0 L w'):=by
 refine bp Tryz.func22 Tryz.ntmps22 ?_
 refine En (Ls (La (Lt (Ls (Ls (La (Lt (Lb (Dz ?_)))))))))
 refine aE.dJ 1 ?_
 refine En (Ls (La (Lt (Ls (Dz ?_)))))
 refine Zi ((0:Int)<(0:Nat)) (λh1'=>?_) (λh1'=>?_)
 ·exfalso;omega
 ·refine En (Lx (gv (gw (Lh (Lt (Ls (La (Lt (Le (Dz ?_))))))))))
  refine bg (v:=.int .i64 0) ?_
  exact⟨rfl,hs⟩
theorem Bf {w0 w:World}{L:List aI}{uc:Nat}{rb:Nat}{eb:Nat}{u:Nat}{rc:Nat}{ra:Option Addr}(hs:St w0 (ah uc #[zP u 0] 28::ah rb #[.slice ra 0 rc] 67::ah eb #[.int .i64 0] 26::L) w):Calls Tryz.prog 21 #[zP uc 0,zP rb 0,zP eb 0] w (aZ λrv w'=>rv=.tuple #[]/\St w0 (ah uc #[zP u 0] 28::ah rb #[.slice ra 0 rc] 67::ah eb #[.int .i64 0] 26::L) w'):=by
 refine bp Tryz.func21 Tryz.ntmps21 ?_
 refine bL [2,3] (Hl 0 0 0 hs (Hl 1 1 0 hs Hz)) ?_
 refine aF (f:=22) (args:=#[zP u 0,.slice ra 0 rc]) Tryz.call22 (rT hs) ?_
 rintro v2 w3 ⟨rfl,hs1⟩
 refine Lo (Dz ?_)
 refine Zv (b:=eb) (off:=0) (v:=.int .i64 0) (ti:=Tryz.t26) zk hs1 2 (cs':=#[.int .i64 0]) ?_
 intro w4 hs5
 refine Lo (Ld (Dz ?_))
 refine aw.done (.inr rfl) (λa hf=>results0 rfl a hf) ?_
 exact⟨rfl,hs5⟩
theorem wo {w0 w:World}{L:List aI}{u:Nat}{r:Nat}{ub:Nat}{bk:Nat}{cb:Nat}{bc:Nat}{ab:Option Addr}(rg:rR) (hTab:∀ w,St w0 L w->cQ w) (hs:St w0 (ah u #[.int .i64 5,.int .i64 2,zP r 0,zP ub 0,zP bk 0,.int .i64 0] 66::RP r 2 0 rg::ah ub #[zP cb 0,.int .i64 2,.int .u64 0,.slice ab (([]:List Int).length) bc] 126::Sl ab bc 5 1 af ([]:List Int)::L) w):Calls Tryz.prog 24 #[zP u 0] w (aZ λrv w'=>rv=.int .i64 0/\St w0 (ah u #[.int .i64 5,.int .i64 2,zP r 0,zP ub 0,zP bk 0,.int .i64 0] 66::RP r 2 0 rg::ah ub #[zP cb 0,.int .i64 2,.int .u64 0,.slice ab (([]:List Int).length) bc] 126::Sl ab bc 5 1 af ([]:List Int)::L) w'):=by
 refine bp Tryz.func24 Tryz.ntmps24 ?_
 refine En (Ls (La (Lt (Ls (Dz ?_)))))
 refine bL [4,9,12] (Hl 3 0 3 hs Hz) ?_
 have hs1:=(hs.pl 3).pl 3
 refine aF Tryz.call65 (iN 2 0 ([]:List Int) zf zf (λ_=>rfl) zf zf (λw h=>hTab w (h.drop 2)) hs1) ?_
 rintro v5 w6 ⟨ax2,cx3,rfl,hs4⟩
 refine Lo (Lu (Dz ?_))
 refine ar.alloc rfl rfl zk (z:=.agg (aO.cells aH)) zk hs4 (cs:=aO.cells aH) zk ?_
 intro b7 w8 hs9
 refine Lo (Lu (Dz ?_))
 refine Zv (b:=b7) (off:=0) (v:=.agg (aO.cells (eO 2 0 ([]:List Int)))) (ti:=Tryz.t34) zk hs9 0 (cs':=aO.cells (eO 2 0 ([]:List Int))) ?_
 intro w10 hs11
 refine Lo (Ld (Lt (Ls (Dz ?_))))
 refine aE.aV [0,1,3,7,15,0,32,96,224,480,1023,2047] (.rd 0 (.rd 1 (.rd 2 (.rd 3 (.rd 5 (.rd 6 (.rd 7 (.rd 8 (.rd 9 (.ef 4 (.rd 10 (.rd 11 .done)))))))))))) zk zk ai zk hs11 ?_
 intro w12 hs13 hw14
 refine Zj (Hl 3 4 2 hs13 (Hl 8 4 1 hs13 Hz)) ?_
 have hs15:=hs13.pl 5
 refine aF Tryz.call27 (iQ 2 0 rg zf hs15) ?_
 rintro v17 w18 ⟨rfl,hs16⟩
 refine⟨bw (n:=[.cell ⟨u,1,none⟩ (.int .i64 2)]) zk (aG (hs16.cell 5 rfl zk) av),?_⟩
 refine gY (Hg 10 (.elem (.int .u64 ((aA 0).toList.getD 1 0))) [.prop (0<=(1:Int)/\(1:Int)<(11:Int)),.prop ((aD.cells (aA 0))[Int.toNat (1)*1]?=some (.int .u64 ((aA 0).toList.getD 1 0)))] (aB za (aB (by rw [Nat.mul_one];exact aD.at_ _ 1 za) av)) Hz) ?_
 refine En (Lt (Ls (Ls (La (Lt (Lb (Ls (La (Lt (Dz ?_))))))))))
 refine cS (t:=(0:Int) == ((aA 0).toList.getD 1 0)) (λh19=>?_) (λh19=>?_)
 ·have h19':(0:Int)=((aA 0).toList.getD 1 0):=dt h19
  refine En (Ls (La (Lt (Le (Ll (Ly (Dz ?_)))))))
  refine bg (v:=.int .i64 0) ?_
  have hs20:=(((((hs16.pl 3).pl 3).pl 2).pl 5).pl 5).pl 5
  have hs21:=hs20.dr 2
  exact⟨rfl,hs21⟩
 ·have h19':¬ ((0:Int)=((aA 0).toList.getD 1 0)):=dH h19
  exfalso;have hz:=h19;rw [dL] at hz;simp at hz
theorem Bg {w0 w:World}{L:List aI}{uc:Nat}{eb:Nat}{u:Nat}{r:Nat}{ub:Nat}{bk:Nat}{cb:Nat}{bc:Nat}{ab:Option Addr}(rg:rR) (hTab:∀ w,St w0 L w->cQ w) (hs:St w0 (ah uc #[zP u 0] 28::ah eb #[.int .i64 0] 26::ah u #[.int .i64 5,.int .i64 2,zP r 0,zP ub 0,zP bk 0,.int .i64 0] 66::RP r 2 0 rg::ah ub #[zP cb 0,.int .i64 2,.int .u64 0,.slice ab (([]:List Int).length) bc] 126::Sl ab bc 5 1 af ([]:List Int)::L) w):Calls Tryz.prog 23 #[zP uc 0,zP eb 0] w (aZ λrv w'=>rv=.tuple #[]/\St w0 (ah uc #[zP u 0] 28::ah eb #[.int .i64 0] 26::ah u #[.int .i64 5,.int .i64 2,zP r 0,zP ub 0,zP bk 0,.int .i64 0] 66::RP r 2 0 rg::ah ub #[zP cb 0,.int .i64 2,.int .u64 0,.slice ab (([]:List Int).length) bc] 126::Sl ab bc 5 1 af ([]:List Int)::L) w'):=by
 refine bp Tryz.func23 Tryz.ntmps23 ?_
 refine bL [1,2] (Hl 0 0 0 hs Hz) ?_
 have hs1:=(((hs.pl 5).pl 5).pl 5).pl 5
 refine aF Tryz.call24 (wo rg (λw h=>hTab w (h.drop 2)) hs1) ?_
 rintro v3 w4 ⟨rfl,hs2⟩
 refine Lo (Dz ?_)
 refine Zv (b:=eb) (off:=0) (v:=.int .i64 0) (ti:=Tryz.t26) zk hs2 5 (cs':=#[.int .i64 0]) ?_
 intro w5 hs6
 refine Lo (Ld (Dz ?_))
 refine aw.done (.inr rfl) (λa hf=>results0 rfl a hf) ?_
 have hs7:=(((((hs6.pl 3).pl 3).pl 3).pl 3).pl 5).pl 5
 exact⟨rfl,hs7⟩
structure Bh where
 r:Nat
 ub:Nat
 cb:Nat
 bk:Nat
 rg:rR
 wq:Nat
 c:Int
 ao:Option Addr
 co:Nat
 ab:Option Addr
 bc:Nat
 bo:List Int
 D:Nat->aC
 dg:et
structure oT (D:Nat->aC) (wq:Nat) (c:Int) (bo:List Int) (k:Nat) (rs:List (List Int)):Prop where
 ln:rs.length=k
 gd:pH rs
 Ee:k<=20
 ci:bz D 0 wq c (dy k bo)
 cc:c<=(k:Nat)+2
 lf:bz D 20 1 3 (iz 1)
 bk:eQ D 40 0 rs
 en:cG 40 rs<=40+7*k
 EW:k=0->bo=[]
 EX:bo.length<=1024
 EY:∀ z∈bo,0<=z/\z<256
 E2:0<k->∃ l,bo=2::l
def DU (u d k:Nat) (rs:List (List Int)) (g:Bh):aI:=Bd (oT g.D g.wq g.c g.bo k rs) [ah u #[.int .i64 5,.int .i64 2,zP g.r 0,zP g.ub 0,zP g.bk 0,.int .i64 0] 66,RP g.r 2 k g.rg,ah g.ub #[zP g.cb 0,.int .i64 2,.int .u64 (k:Nat),.slice g.ab g.bo.length g.bc] 126,ah g.cb #[zP d 0,.int .i64 (0:Nat),.slice g.ao ((dy k g.bo).length) g.co,.int .i64 (g.wq:Nat),.bool false] 197,Sl g.ab g.bc 5 1 af g.bo,ah g.bk #[zP d 0,.int .i64 (cG 40 rs:Nat),.int .i64 (8212:Nat),.int .u64 1,.int .i64 (k:Nat),.bool false] 138,DK d g.D 0 g.dg]
theorem wu {w0 w:World}{L:List aI}{d:Nat}{D:Nat->aC}{nk:Nat}{g:et}(hc1:bz D 0 0 2 []) (hc2:bz D 20 0 2 []) (hz:∀ a,40<=a->D a=fX) (hk:nk<800) (hTab:∀ w,St w0 L w->cQ w) (hs:St w0 (DK d D nk g::L) w):Calls Tryz.prog 7 #[.int .i64 5,.int .i64 2,zP d 0] w (aZ λrv w'=>∃ (u:Nat) (ug2:Bh),rv=.tuple #[zP u 0,.int .i64 0]/\St w0 (DU u d 0 ([]) ug2::L) w'):=by
 refine bp Tryz.func7 Tryz.ntmps7 ?_
 refine En (Ls (Lg [0,1,2] (Dz ?_)))
 refine ar.box rfl rfl zk (v:=.int .i64 5) zk hs (cs:=#[.int .i64 5]) zk ?_
 intro b1 w2 hs3
 refine Lo (Dz ?_)
 refine ar.box rfl rfl zk (v:=.int .i64 2) zk hs3 (cs:=#[.int .i64 2]) zk ?_
 intro b4 w5 hs6
 refine Lo (Dz ?_)
 refine ar.box rfl rfl zk (v:=zP d 0) zk hs6 (cs:=#[zP d 0]) zk ?_
 intro b7 w8 hs9
 refine Lo (aL (Lt (Ls (Ls (Dz ?_)))))
 refine bj (Hl 0 0 0 hs9 Hz) ?_
 refine En (Lt (LF (Lk (Lt (Ls (Dz ?_))))))
 refine bL [3,4,5] (Hl 0 2 0 hs9 (Hl 1 1 0 hs9 Hz)) ?_
 refine ar.box rfl rfl zk (v:=.agg CG) zk hs9 (cs:=CG) zk ?_
 intro b10 w11 hs12
 refine Lo (Dz ?_)
 refine ar.alloc rfl rfl zk (z:=.pointer none) zk hs12 (cs:=#[.pointer none]) zk ?_
 intro b13 w14 hs15
 refine Lo (Dz ?_)
 refine Zv (b:=b13) (off:=0) (v:=zP b10 0) (ti:=Tryz.t28) zk hs15 0 (cs':=#[zP b10 0]) ?_
 intro w16 hs17
 refine Lo (Ld (Lt (Ls (Lg [0] (Dz ?_)))))
 refine ar.alloc rfl rfl zk (z:=.slice none 0 0) zk hs17 (cs:=#[.slice none 0 0]) zk ?_
 intro b18 w19 hs20
 refine Lo (Ld (Lt (Ls (Lg [0] (Dz ?_)))))
 refine ar.alloc rfl rfl zk (z:=.int .i64 0) zk hs20 (cs:=#[.int .i64 0]) zk ?_
 intro b21 w22 hs23
 refine Lo (Ld (Lt (Ls (Ls (Lg [5] (Lu (Dz ?_)))))))
 refine ar.aW rfl zk (t:=76) (e:=1) (n:=5) (ps:=[(0,.func (.func 15) #[] #[zP b1 0,zP b4 0,zP b13 0,zP b21 0]),(1,.func (.func 17) #[] #[zP b4 0,zP b7 0,zP b13 0,zP b21 0]),(2,.func (.func 19) #[] #[zP b7 0,zP b13 0,zP b18 0,zP b21 0]),(3,.func (.func 21) #[] #[zP b13 0,zP b18 0,zP b21 0]),(4,.func (.func 23) #[] #[zP b13 0,zP b21 0])]) zk zk (ti:=Tryz.t1) (z:=.nilFunc) zk zk zf zf (cs:=#[.func (.func 15) #[] #[zP b1 0,zP b4 0,zP b13 0,zP b21 0],.func (.func 17) #[] #[zP b4 0,zP b7 0,zP b13 0,zP b21 0],.func (.func 19) #[] #[zP b7 0,zP b13 0,zP b18 0,zP b21 0],.func (.func 21) #[] #[zP b13 0,zP b18 0,zP b21 0],.func (.func 23) #[] #[zP b13 0,zP b21 0]]) zk hs23 ?_
 intro b24 w25 hs26 hz27
 refine Lo (aL (Lt (Lb (Dz ?_))))
 refine aE.dJ 6 ?_
 refine En (Ls (La (Lt (Ls (LT (Lk (Lt (Ls (Lb (Ls (Dz ?_)))))))))))
 refine bj (Hx 0 (0:Int) (5:Int) b24 0 1 (Hl 1 0 0 hs26 Hz)) ?_
 refine En (Lt (Ls (Lg [1] (Lu (Dz ?_)))))
 have hs28:=((((hs26.pl 4).pl 2).pl 4).pl 6).pl 7
 refine aF Tryz.call15 (Bb hs28) ?_
 rintro v32 w33 ⟨r29,rg30,rfl,hs31⟩
 refine Lo (Ld (Lt (Ls (Dz ?_))))
 refine bj (Hl 0 3 0 hs31 Hz) ?_
 refine En (Lt (LF (Lk (Lm (Lt (La (Dz ?_)))))))
 refine aw.again ?_
 refine En (Ls (La (Lt (Ls (LT (Lk (Lt (Ls (Lb (Ls (Dz ?_)))))))))))
 refine bj (Hx 0 (1:Int) (5:Int) b24 0 1 (Hl 1 6 1 hs31 Hz)) ?_
 refine En (Lt (Ls (Lg [1] (Lu (Dz ?_)))))
 have hs34:=(((((hs31.pl 9).pl 5).pl 5).pl 5).pl 9).pl 6
 refine aF Tryz.call17 (Bc 0 2 hc1 (λw h=>hTab w (h.drop 4)) hs34) ?_
 rintro v42 w43 ⟨ub35,cb36,ao37,co38,ab39,bc40,rfl,hs41⟩
 refine Lo (Ld (Lt (Ls (Dz ?_))))
 refine bj (Hl 0 3 0 hs41 Hz) ?_
 refine En (Lt (LF (Lk (Lm (Lt (La (Dz ?_)))))))
 refine aw.again ?_
 refine En (Ls (La (Lt (Ls (LT (Lk (Lt (Ls (Lb (Ls (Dz ?_)))))))))))
 refine bj (Hx 0 (2:Int) (5:Int) b24 0 1 (Hl 1 11 2 hs41 Hz)) ?_
 refine En (Lt (Ls (Lg [1] (Lu (Dz ?_)))))
 have hs44:=(((((hs41.pl 8).pl 5).pl 5).pl 12).pl 6).pl 6
 refine aF Tryz.call19 (Be 0 2 hc2 (λx hx=>hz x hx) zK hk hs44) ?_
 rintro v53 w54 ⟨bk45,ra46,rc47,dq48,gd49,rfl,hci250,hout51,hs52⟩
 refine Lo (Ld (Lt (Ls (Dz ?_))))
 refine bj (Hl 0 3 0 hs52 Hz) ?_
 refine En (Lt (LF (Lk (Lm (Lt (La (Dz ?_)))))))
 refine aw.again ?_
 refine En (Ls (La (Lt (Ls (LT (Lk (Lt (Ls (Lb (Ls (Dz ?_)))))))))))
 refine bj (Hx 0 (3:Int) (5:Int) b24 0 1 (Hl 1 13 3 hs52 Hz)) ?_
 refine En (Lt (Ls (Lg [1] (Lu (Dz ?_)))))
 have hs55:=((hs52.pl 3).pl 3).pl 3
 refine aF Tryz.call21 (Bf hs55) ?_
 rintro v57 w58 ⟨rfl,hs56⟩
 refine Lo (Ld (Lt (Ls (Dz ?_))))
 refine bj (Hl 0 2 0 hs56 Hz) ?_
 refine En (Lt (LF (Lk (Lm (Lt (La (Dz ?_)))))))
 refine aw.again ?_
 refine En (Ls (La (Lt (Ls (LT (Lk (Lt (Ls (Lb (Ls (Dz ?_)))))))))))
 refine bj (Hx 0 (4:Int) (5:Int) b24 0 1 (Hl 1 13 4 hs56 Hz)) ?_
 refine En (Lt (Ls (Lg [1] (Lu (Dz ?_)))))
 have hs59:=(((((hs56.pl 10).pl 9).pl 12).pl 7).pl 6).pl 5
 refine aF Tryz.call23 (Bg rg30 (λw h=>hTab w (h.drop 8)) hs59) ?_
 rintro v61 w62 ⟨rfl,hs60⟩
 refine Lo (Ld (Lt (Ls (Dz ?_))))
 refine bj (Hl 0 1 0 hs60 Hz) ?_
 refine En (Lt (LF (Lk (Lm (Lt (La (Dz ?_)))))))
 refine aw.again ?_
 refine En (Ls (La (Lt (Ls (LF (Lx (gv (gw (Lh (Lt (Ls (Dz ?_))))))))))))
 refine bj (Hl 0 0 0 hs60 Hz) ?_
 refine Zt (Ze (?_))
 refine jE (v:=zP b10 0) (v':=.int .i64 0) ?_
 have hs63:=((((((hs60.pl 9).pl 9).pl 7).pl 11).pl 8).pl 8).pl 8
 have hs64:St w0 (DU b10 d 0 ([]) (⟨r29,ub35,cb36,bk45,rg30,0,2,ao37,co38,ab39,bc40,([]:List Int),dq48,gd49⟩)::ah b13 #[zP b10 0] 28::ah b21 #[.int .i64 0] 26::ah b18 #[.slice ra46 0 rc47] 67::ah b7 #[zP d 0] 24::ah b4 #[.int .i64 2] 3::ah b1 #[.int .i64 5] 3::ah b24 #[.func (.func 15) #[] #[zP b1 0,zP b4 0,zP b13 0,zP b21 0],.func (.func 17) #[] #[zP b4 0,zP b7 0,zP b13 0,zP b21 0],.func (.func 19) #[] #[zP b7 0,zP b13 0,zP b18 0,zP b21 0],.func (.func 21) #[] #[zP b13 0,zP b18 0,zP b21 0],.func (.func 23) #[] #[zP b13 0,zP b21 0]] 1::L) w62:=Bd.close ⟨rfl,pH.nil,zf,hc1.congr (λa h1 h2=>hout51 a (.inl za)),show(2:Int)<=((0:Nat):Int)+2 from by decide,hci250,λx hx=>(hout51 x (.inr hx)).trans (hz x hx),zf,λ_=>rfl,Nat.zero_le _,λz hz=>(by cases hz),λh=>absurd h (Nat.lt_irrefl 0)⟩ hs63
 have hs65:=(((((((hs64.pl 0).pl 7).pl 7).pl 7).pl 7).pl 7).pl 7).pl 7
 have hs66:=hs65.dr 7
 exact⟨b10,⟨r29,ub35,cb36,bk45,rg30,0,2,ao37,co38,ab39,bc40,([]:List Int),dq48,gd49⟩,rfl,hs66⟩
theorem tY {w0 w:World}{L:List aI}{u:Nat}{mb:Nat}{r:Nat}{ub:Nat}{bk:Nat}{d:Nat}{D:Nat->aC}{g:et}(m:an) (a:Nat) (mn:Nat) (hm:fa m) (hmay:cZ m=true) (hmn:mn<=60000) (hto:a+7<=8212) (hr:∀ w,St w0 L w->ag w m.bd.qa m.bd.ql.length 2 (λk=>aT.cells (m.bd.ql.getD k aR))) (hs:St w0 (ah u #[.int .i64 5,.int .i64 2,zP r 0,zP ub 0,zP bk 0,.int .i64 0] 66::Sl (some ⟨mb,0,none⟩) 1 43 121 an.cells ([m])::ah bk #[zP d 0,.int .i64 (a:Nat),.int .i64 (8212:Nat),.int .u64 1,.int .i64 (mn:Nat),.bool false] 138::DK d D 0 g::L) w):Calls Tryz.prog 75 #[zP u 0,zL mb 0 1 1] w (aZ λrv w'=>∃ (dq2:Nat->aC) (gd2:et),rv=.int .i64 0/\lD dq2 a ((mn:Nat)+1) (fI m)/\(∀ x,(x<a\/a+bE (fI m).length<=x)->dq2 x=D x)/\St w0 (ah u #[.int .i64 5,.int .i64 2,zP r 0,zP ub 0,zP bk 0,.int .i64 0] 66::Sl (some ⟨mb,0,none⟩) 1 43 121 an.cells ([m])::ah bk #[zP d 0,.int .i64 ((a:Nat)+(bE (fI m).length:Nat)),.int .i64 (8212:Nat),.int .u64 1,.int .i64 ((mn:Nat)+1),.bool false] 138::DK d dq2 0 gd2::L) w'):=by
 have hpl:(fI m).length<=740:=sS hmay
 refine bp Tryz.func75 Tryz.ntmps75 ?_
 refine En (Ls (La (Lt (Ls (Ls (La (Lt (Lb (Dz ?_)))))))))
 refine aE.dJ 2 ?_
 refine En (Ls (La (Lt (Ls (LT (Lk (Lt (Ls (Lb (Ls (Dz ?_)))))))))))
 refine bL [2,3] (Hx 0 (0:Int) (1:Int) mb 0 121 (Hg 1 (.agg (an.cells m)) [.prop (Array.size (an.cells m)=121),.cells ⟨mb,0,none⟩ (an.cells m)] (aB zk (dq (ag.lO (hs.rows 1 rfl xQ.size dm) (k:=0) zd (Nat.le_of_ble_eq_true zk) zk) av)) Hz)) ?_
 refine ar.alloc rfl rfl zk (z:=.agg (an.cells dm)) zk hs (cs:=an.cells dm) zk ?_
 intro b1 w2 hs3
 refine Lo (Dz ?_)
 refine Zv (b:=b1) (off:=0) (v:=.agg (an.cells m)) (ti:=Tryz.t43) zk hs3 0 (cs':=an.cells m) ?_
 intro w4 hs5
 refine Lo (Ld (Lt (Ls (Dz ?_))))
 refine aE.aV [0,0,2,6,14,0,32,126,255,511,1023] (.rd 0 (.rd 1 (.rd 2 (.rd 3 (.rd 4 (.rd 5 (.ef 6 (.ef 7 (.rd 8 (.rd 9 (.ef 10 .done))))))))))) zk zk ai zk hs5 ?_
 intro w6 hs7 hw8
 refine Zj (Hl 4 1 4 hs7 (du 5 0 0 121 (an.cells m) hs7 Hz)) ?_
 refine aF (f:=68) (args:=#[.agg (an.cells m)]) Tryz.call68 (yd m hm (λw h=>hr _ (h.drop 5)) hs7) ?_
 rintro v12 w13 ⟨ao9,co10,rfl,hs11⟩
 refine⟨bw (n:=[.cell ⟨u,4,none⟩ (zP bk 0)]) zk (aG (hs11.cell 2 rfl zk) av),?_⟩
 have hs14:=(hs11.pl 5).pl 5
 refine aF Tryz.call67 (tD a 8212 mn (fI m) za za (by have h7:bE (fI m).length<=7:=(by unfold bE;omega);omega) za (dQ hs14 2 rfl) za (λw h=>h.rows 0 rfl aj.size _) hs14) ?_
 rintro v20 w21 ⟨dq15,gd16,rfl,hrec17,hout18,hs19⟩
 refine Lo (Lu (Dz ?_))
 refine Zv (b:=u) (off:=5) (v:=.int .i64 0) (ti:=Tryz.t26) zk hs19 4 (cs':=#[.int .i64 5,.int .i64 2,zP r 0,zP ub 0,zP bk 0,.int .i64 0]) ?_
 intro w22 hs23
 refine Lo (Ld (Lt (Ls (Dz ?_))))
 refine bj (Hl 3 4 5 hs23 Hz) ?_
 refine En (Lt (LF (Lk (Lm (Lt (La (Dz ?_)))))))
 refine aw.again ?_
 refine En (Ls (La (Lt (Ls (LF (Lx (gv (gw (Lh (Lt (Ls (Dz ?_))))))))))))
 refine bj (Hl 3 4 5 hs23 Hz) ?_
 refine Zt (Ze (?_))
 refine bg (v:=.int .i64 0) ?_
 have hs24:=(((((hs23.pl 1).pl 1).pl 5).pl 5).pl 5).pl 5
 have hs25:=hs24.dr 2
 exact⟨dq15,gd16,rfl,hrec17,hout18,hs25⟩
theorem B6 (og nr:Int) (dp:aD) (b:aK) (t t2:aO):cZ ⟨og,nr,dp,b,t⟩=cZ ⟨og,nr,dp,b,t2⟩:=rfl
theorem De (og nr:Int) (dp:aD) (b:aK) (t t2:aO):gj ⟨og,nr,dp,b,t⟩=gj ⟨og,nr,dp,b,t2⟩:=rfl
theorem uo.E3 {k:Nat}{bd:aK}(hm:fa (⟨2,((k:Nat)+1),aA k,bd,aH⟩:an)) (hmay:cZ (⟨2,((k:Nat)+1),aA k,bd,aH⟩:an)=true) (hq5:(bd.ql.any (λq=>decide ((q.rp:Int)>5)))=false):uo k bd (eM 2 ((k:Nat)+1) (gk (⟨2,((k:Nat)+1),aA k,bd,aH⟩:an))):=by
 have hby:gk (⟨2,((k:Nat)+1),aA k,bd,aH⟩:an)=gj (⟨2,((k:Nat)+1),aA k,bd,aH⟩:an):=by
  unfold gk
  rw [if_pos hmay]
 refine⟨⟨hm.og,hm.nr,hm.dp,hm.bd,oF _ _ _⟩,(B6 _ _ _ _ _ aH).trans hmay,hq5,?_⟩
 rw [hby]
 exact congrArg (eM 2 ((k:Nat)+1)) (De _ _ _ _ _ _)
theorem oT.add {D D1 D2:Nat->aC}{wq k:Nat}{c:Int}{bo b r:List Int}{rs:List (List Int)}(h:oT D wq c bo k rs) (hk:k<20) (hr:xB k r) (hb:b.length<=1024) (hbb:∀ z∈b,0<=z/\z<256) (hb2:∃ l,b=2::l)
 (hc:bz D1 0 (1-wq) (c+1) (dy (k+1) b)) (h1:∀ a,(a<0\/0+20<=a)->D1 a=D a) (hrec:lD D2 (cG 40 rs) ((k:Nat)+1) r) (h2:∀ x,(x<cG 40 rs\/cG 40 rs+bE r.length<=x)->D2 x=D1 x):oT D2 (1-wq) (c+1) b (k+1) (rs++[r]):=by
 have hge:40<=cG 40 rs:=nf rs 40
 have hln:=h.ln
 have h740:=hr.len
 have h7:bE r.length<=7:=by unfold bE;omega
 have hen:=h.en
 have hcc:=h.cc
 have hb1:eQ D1 40 0 rs:=h.bk.congr λx hx=>h1 x (.inr za)
 refine⟨by rw [List.length_append,hln];rfl,h.gd.app (by rw [hln];exact hr),za,hc.congr (λa _ h4=>h2 a (.inl za)),za,h.lf.congr (λa h3 h4=>(h2 a (.inl za)).trans (h1 a (.inr za))),?_,by rw [oN];omega,λe=>by omega,hb,hbb,λ_=>hb2⟩
 exact hb1.app (Nat.le_trans h740 zf) hr.Dk (by rw [Nat.zero_add,hln];exact hrec) h2
theorem B7 {k:Nat}{bd:aK}(hmay:cZ (⟨2,((k:Nat)+1),aA k,bd,aH⟩:an)=true):∃ l,gk (⟨2,((k:Nat)+1),aA k,bd,aH⟩:an)=2::l:=by
 unfold gk
 rw [if_pos hmay,vf hmay]
 exact⟨_,rfl⟩
theorem lH {m:an}:(gk m).length<=1024:=by
 unfold gk
 split
 ·rename_i h
  have:=(eK h).2
  omega
 ·exact Nat.zero_le _
theorem mO {w0 w:World}{L:List aI}(m:an) (hm:fa m) (hr:∀ w,St w0 L w->ag w m.bd.qa m.bd.ql.length 2 (λk=>aT.cells (m.bd.ql.getD k aR))) (hs:St w0 L w):Calls Tryz.prog 74 #[.agg (an.cells m)] w (aZ λrv w'=>∃ (bm:List Int) (ao:Option Addr) (co:Nat),rv=.slice ao bm.length co/\bm=gk m/\St w0 (Sl ao co 5 1 af bm::L) w'):=by
 refine Calls.ret (mA m hm hr hs) ?_
 rintro v w2 ⟨ao,co,rfl,h⟩
 exact⟨_,ao,co,rfl,rfl,h⟩
theorem kE {w0 w:World}{L:List aI}{ub:Nat}{cb:Nat}{d:Nat}{ao:Option Addr}{co:Nat}{ao1:Option Addr}{co1:Nat}{ad:Option Addr}{cy:Nat}{D:Nat->aC}{nk:Nat}{g:et}(at_:Nat) (wq:Nat) (c:Int) (i:Int) (n:Nat) (b:List Int) (bo:List Int) (hat:at_+20<=32768) (hi:1<=i) (him:i<=11) (hn2:n<65536) (hci:bz D at_ wq c (dy n bo)) (hcc:c+1<8000000000000000000) (hbl:b.length<=1024) (hbb:∀ z∈b,0<=z/\z<256) (hsm:se ad cy) (hbc:b.length<=cy) (hk:nk<800) (hTab:∀ w,St w0 L w->cQ w) (hr:∀ w,St w0 L w->ag w ad b.length 1 (λk=>af (b.getD k 0))) (hs:St w0 (ah ub #[zP cb 0,.int .i64 i,.int .u64 (n:Nat),.slice ao1 bo.length co1] 126::ah cb #[zP d 0,.int .i64 (at_:Nat),.slice ao ((dy n bo).length) co,.int .i64 (wq:Nat),.bool false] 197::DK d D nk g::L) w):Calls Tryz.prog 73 #[zP ub 0,.slice ad b.length cy] w (aZ λrv w'=>∃ (tg2:aO) (ax:Option Addr) (cx2:Nat) (ab2:Option Addr) (bc2:Nat) (dq2:Nat->aC) (gd2:et),rv=.tuple #[.int .u64 ((n:Nat)+1),.agg (aO.cells tg2),.int .i64 0]/\tg2=eM i ((n:Nat)+1) b/\bz dq2 at_ (1-wq) (c+1) (dy (n+1) b)/\(∀ a,(a<at_\/at_+20<=a)->dq2 a=D a)/\St w0 (ah ub #[zP cb 0,.int .i64 i,.int .u64 ((n:Nat)+1),.slice ab2 b.length bc2] 126::ah cb #[zP d 0,.int .i64 (at_:Nat),.slice ax ((dy (n+1) b).length) cx2,.int .i64 ((1-wq):Nat),.bool false] 197::Sl ab2 bc2 5 1 af b::DK d dq2 0 gd2::L) w'):=by
 refine Calls.ret (vO at_ wq c i n b bo hat hi him hn2 hci hcc hbl hbb hsm hbc hk hTab hr hs) ?_
 rintro v w2 ⟨ax,cx2,ab2,bc2,dq2,gd2,rfl,q1,q2,h⟩
 exact⟨_,ax,cx2,ab2,bc2,dq2,gd2,rfl,rfl,q1,q2,h⟩
theorem tZ {w0 w:World}{L:List aI}{u:Nat}{d:Nat}(k:Nat) (bd:aK) (rs:List (List Int)) (ug:Bh) (hm:fa (⟨2,((k:Nat)+1),aA k,bd,aH⟩:an)) (hmay:cZ (⟨2,((k:Nat)+1),aA k,bd,aH⟩:an)=true) (hq5:(bd.ql.any (λq=>decide ((q.rp:Int)>5)))=false) (hqs:Nn bd.qa bd.qc) (hk:k<20) (hTab:∀ w,St w0 L w->cQ w) (hr:∀ w,St w0 L w->ag w bd.qa bd.ql.length 2 (λk=>aT.cells (bd.ql.getD k aR))) (hs:St w0 (DU u d k rs ug::L) w):Calls Tryz.prog 31 #[zP u 0,.agg (an.cells (⟨2,((k:Nat)+1),aA k,bd,aH⟩:an))] w (aZ λrv w'=>∃ (tg2:aO) (ug2:Bh),rv=.tuple #[.agg (an.cells (⟨2,((k:Nat)+1),aA k,bd,tg2⟩:an)),.int .i64 0]/\uo k bd tg2/\St w0 (DU u d (k+1) (rs++[fI (⟨2,((k:Nat)+1),aA k,bd,tg2⟩:an)]) ug2::L) w'):=by
 obtain⟨r,ub,cb,bk,rg,wq,c,ao,co,ab,bc,bo,D,dg⟩:=ug
 obtain⟨hd0,hs10⟩:=Bd.open hs
 have hs1:St w0 (ah u #[.int .i64 5,.int .i64 2,zP r 0,zP ub 0,zP bk 0,.int .i64 0] 66::RP r 2 k rg::ah ub #[zP cb 0,.int .i64 2,.int .u64 (k:Nat),.slice ab bo.length bc] 126::ah cb #[zP d 0,.int .i64 (0:Nat),.slice ao ((dy k bo).length) co,.int .i64 (wq:Nat),.bool false] 197::Sl ab bc 5 1 af bo::ah bk #[zP d 0,.int .i64 (cG 40 rs:Nat),.int .i64 (8212:Nat),.int .u64 1,.int .i64 (k:Nat),.bool false] 138::DK d D 0 dg::L) w:=hs10
 have hd:oT D wq c bo k rs:=hd0
 have hcc:=hd.cc
 have hen:=hd.en
 refine bp Tryz.func31 Tryz.ntmps31 ?_
 refine En (Ls (Lg [0,1] (Dz ?_)))
 refine ar.box rfl rfl zk (v:=.agg (an.cells (⟨2,((k:Nat)+1),aA k,bd,aH⟩:an))) zk hs1 (cs:=an.cells (⟨2,((k:Nat)+1),aA k,bd,aH⟩:an)) zk ?_
 intro b2 w3 hs4
 refine Lo (Dz ?_)
 refine ar.alloc rfl rfl zk (z:=.agg (an.cells dm)) zk hs4 (cs:=an.cells dm) zk ?_
 intro b5 w6 hs7
 refine Lo (aL (Lt (Ls (Dz ?_))))
 refine aE.join (T:=Nat×aO×Option Addr×List Int×Nat×Option Addr×Nat×(Nat->aC)×et×Option Addr×Nat) (E:=λjx=>[(0,zP u 0),(3,zP b2 0),(4,zP b5 0),(5,.int .i64 0),(7,zP jx.1 0),(8,.int .i64 0)]) (F:=λjx w=>(jx.2.2.2.1=gk (⟨2,((k:Nat)+1),aA k,bd,aH⟩:an))/\(jx.2.1=eM 2 ((k:Nat)+1) jx.2.2.2.1)/\(bz jx.2.2.2.2.2.2.2.1 0 (1-wq) (c+1) (dy (k+1) jx.2.2.2.1))/\(∀ a,(a<0\/0+20<=a)->jx.2.2.2.2.2.2.2.1 a=D a)/\St w0 (ah jx.1 (aO.cells jx.2.1) 34::ah ub #[zP cb 0,.int .i64 2,.int .u64 ((k:Nat)+1),.slice jx.2.2.1 jx.2.2.2.1.length jx.2.2.2.2.1] 126::ah cb #[zP d 0,.int .i64 0,.slice jx.2.2.2.2.2.1 ((dy (k+1) jx.2.2.2.1).length) jx.2.2.2.2.2.2.1,.int .i64 ((1-wq):Nat),.bool false] 197::Sl jx.2.2.1 jx.2.2.2.2.1 5 1 af jx.2.2.2.1::DK d jx.2.2.2.2.2.2.2.1 0 jx.2.2.2.2.2.2.2.2.1::Sl jx.2.2.2.2.2.2.2.2.2.1 jx.2.2.2.2.2.2.2.2.2.2 5 1 af jx.2.2.2.1::ah b5 (an.cells dm) 43::ah b2 (an.cells (⟨2,((k:Nat)+1),aA k,bd,aH⟩:an)) 43::ah u #[.int .i64 5,.int .i64 2,zP r 0,zP ub 0,zP bk 0,.int .i64 0] 66::RP r 2 k rg::Sl ab bc 5 1 af bo::ah bk #[zP d 0,.int .i64 (cG 40 rs:Nat),.int .i64 (8212:Nat),.int .u64 1,.int .i64 (k:Nat),.bool false] 138::L) w) ?_ ?_
 ·refine aE.aV [0,1,3,7,0,16,63,127,255,255,255,0,2559,7167,16383] (.rd 0 (.rd 1 (.rd 2 (.rd 3 (.rd 4 (.alt (.ef 5 (.alt (.ef 6 (.rd 7 (.rd 8 (.rd 9 (.rd 10 (.ef 11 (.rd 12 (.ef 13 (.rd 14 .done))))))))) (.ef 11 (.ef 6 (.rd 7 (.rd 8 (.rd 9 (.rd 10 (.rd 12 (.ef 13 (.rd 14 .done))))))))))) (.ef 11 (.ef 5 (.ef 6 (.rd 7 (.rd 8 (.rd 9 (.rd 10 (.rd 12 (.ef 13 (.rd 14 .done)))))))))))))))) zk zk ai zk hs7 ?_
  intro w8 hs9 hw10
  refine Zp 0 5 [(3,.gen [zP ub 0]),(4,.agg (an.cells (⟨2,((k:Nat)+1),aA k,bd,aH⟩:an)))] [(3,[.cell ⟨u,3,none⟩ (zP ub 0)]),(4,[.prop (Array.size (an.cells (⟨2,((k:Nat)+1),aA k,bd,aH⟩:an))=121),.cells ⟨b2,0,none⟩ (an.cells (⟨2,((k:Nat)+1),aA k,bd,aH⟩:an))])] (ak (aG (hs9.cell 2 rfl zk) av) (ak (aB zk (dq (hs9.cells 1 0 rfl zk) av)) cW)) ?_
  refine ar.alt ?_ ?_
  ·refine aF Tryz.call74 (mO (⟨2,((k:Nat)+1),aA k,bd,aH⟩:an) (by first|exact hm|exact hgd.ok) (λw h=>hr _ (h.drop 9)) hs9) ?_
   rintro v16 w17 ⟨bm11,ao12,co13,rfl,hbm14,hs15⟩
   refine⟨bw (n:=[.cell ⟨u,3,none⟩ (zP ub 0)]) zk (aG (hs15.cell 3 rfl zk) av),?_⟩
   refine ar.alt ?_ ?_
   ·have hs18:=((hs15.pl 9).pl 7).pl 7
    refine aF Tryz.call73 (kE 0 wq c 2 k bm11 bo zf zf zf za hd.ci za (by rw [hbm14];exact lH) (by rw [hbm14];exact kY hm) (dQ hs18 3 rfl) (Sl.cap (hs18.at_ 3 rfl)) za (λw h=>hTab w (h.drop 7)) (λw h=>h.rows 0 rfl aj.size _) hs18) ?_
    rintro v30 w31 ⟨tg19,ax20,cx21,ab22,bc23,dq24,gd25,rfl,htg26,hci227,hout28,hs29⟩
    refine Lo (Dz ?_)
    refine Zr 7 4 [] ?_
    refine ar.alloc rfl rfl zk (z:=.agg (aO.cells aH)) zk hs29 (cs:=aO.cells aH) zk ?_
    intro b32 w33 hs34
    refine⟨bw (n:=[.prop (Array.size (an.cells (⟨2,((k:Nat)+1),aA k,bd,aH⟩:an))=121),.cells ⟨b2,0,none⟩ (an.cells (⟨2,((k:Nat)+1),aA k,bd,aH⟩:an)),.cell ⟨u,3,none⟩ (zP ub 0)]) zk (aB zk (dq (hs34.cells 7 0 rfl zk) (aG (hs34.cell 8 rfl zk) av))),?_⟩
    refine Zr 12 1 [] ?_
    refine Zv (b:=b32) (off:=0) (v:=.agg (aO.cells tg19)) (ti:=Tryz.t34) zk hs34 0 (cs':=aO.cells tg19) ?_
    intro w35 hs36
    refine Lo (Dz ?_)
    refine Zr 14 1 [] ?_
    refine Zd (?_)
    refine aw.pick [0,3,4,5,7,8] (S':=[(0,zP u 0),(3,zP b2 0),(4,zP b5 0),(5,.int .i64 0),(7,zP b32 0),(8,.int .i64 0)]) zk ?_
    exact aw.bD (b32,tg19,ab22,bm11,bc23,ax20,cx21,dq24,gd25,ao12,co13) rfl ⟨hbm14,htg26,hci227,hout28,hs36⟩
   refine ar.alloc rfl rfl zk (z:=.agg (aO.cells aH)) zk hs15 (cs:=aO.cells aH) zk ?_
   intro b37 w38 hs39
   refine⟨bw (n:=[.prop (Array.size (an.cells (⟨2,((k:Nat)+1),aA k,bd,aH⟩:an))=121),.cells ⟨b2,0,none⟩ (an.cells (⟨2,((k:Nat)+1),aA k,bd,aH⟩:an)),.cell ⟨u,3,none⟩ (zP ub 0)]) zk (aB zk (dq (hs39.cells 3 0 rfl zk) (aG (hs39.cell 4 rfl zk) av))),?_⟩
   have hs40:=((hs39.pl 10).pl 8).pl 8
   refine aF Tryz.call73 (kE 0 wq c 2 k bm11 bo zf zf zf za hd.ci za (by rw [hbm14];exact lH) (by rw [hbm14];exact kY hm) (dQ hs40 4 rfl) (Sl.cap (hs40.at_ 4 rfl)) za (λw h=>hTab w (h.drop 8)) (λw h=>h.rows 1 rfl aj.size _) hs40) ?_
   rintro v52 w53 ⟨tg41,ax42,cx43,ab44,bc45,dq46,gd47,rfl,htg48,hci249,hout50,hs51⟩
   refine Lo (Dz ?_)
   refine Zh [(7,.gen []),(8,.gen []),(9,.gen []),(10,.gen []),(12,.gen [])] [] cW ?_
   refine Zv (b:=b37) (off:=0) (v:=.agg (aO.cells tg41)) (ti:=Tryz.t34) zk hs51 4 (cs':=aO.cells tg41) ?_
   intro w54 hs55
   refine Lo (Dz ?_)
   refine Zr 14 1 [] ?_
   refine Zd (?_)
   have hs56:=(((((((((((hs55.pl 11).pl 11).pl 11).pl 11).pl 11).pl 11).pl 11).pl 10).pl 10).pl 10).pl 10).pl 11
   refine aw.pick [0,3,4,5,7,8] (S':=[(0,zP u 0),(3,zP b2 0),(4,zP b5 0),(5,.int .i64 0),(7,zP b37 0),(8,.int .i64 0)]) zk ?_
   exact aw.bD (b37,tg41,ab44,bm11,bc45,ax42,cx43,dq46,gd47,ao12,co13) rfl ⟨hbm14,htg48,hci249,hout50,hs56⟩
  refine ar.alloc rfl rfl zk (z:=.agg (aO.cells aH)) zk hs9 (cs:=aO.cells aH) zk ?_
  intro b57 w58 hs59
  refine⟨bw (n:=[.prop (Array.size (an.cells (⟨2,((k:Nat)+1),aA k,bd,aH⟩:an))=121),.cells ⟨b2,0,none⟩ (an.cells (⟨2,((k:Nat)+1),aA k,bd,aH⟩:an)),.cell ⟨u,3,none⟩ (zP ub 0)]) zk (aB zk (dq (hs59.cells 2 0 rfl zk) (aG (hs59.cell 3 rfl zk) av))),?_⟩
  refine aF Tryz.call74 (mO (⟨2,((k:Nat)+1),aA k,bd,aH⟩:an) (by first|exact hm|exact hgd.ok) (λw h=>hr _ (h.drop 10)) hs59) ?_
  rintro v65 w66 ⟨bm60,ao61,co62,rfl,hbm63,hs64⟩
  refine⟨bw (n:=[.cell ⟨u,3,none⟩ (zP ub 0)]) zk (aG (hs64.cell 4 rfl zk) av),?_⟩
  have hs67:=((hs64.pl 10).pl 8).pl 8
  refine aF Tryz.call73 (kE 0 wq c 2 k bm60 bo zf zf zf za hd.ci za (by rw [hbm63];exact lH) (by rw [hbm63];exact kY hm) (dQ hs67 3 rfl) (Sl.cap (hs67.at_ 3 rfl)) za (λw h=>hTab w (h.drop 8)) (λw h=>h.rows 0 rfl aj.size _) hs67) ?_
  rintro v79 w80 ⟨tg68,ax69,cx70,ab71,bc72,dq73,gd74,rfl,htg75,hci276,hout77,hs78⟩
  refine Lo (Dz ?_)
  refine Zh [(7,.gen []),(8,.gen []),(9,.gen []),(10,.gen []),(12,.gen [])] [] cW ?_
  refine Zv (b:=b57) (off:=0) (v:=.agg (aO.cells tg68)) (ti:=Tryz.t34) zk hs78 5 (cs':=aO.cells tg68) ?_
  intro w81 hs82
  refine Lo (Dz ?_)
  refine Zr 14 1 [] ?_
  refine Zd (?_)
  have hs83:=(((((((((((hs82.pl 11).pl 11).pl 11).pl 11).pl 11).pl 11).pl 10).pl 10).pl 10).pl 10).pl 10).pl 11
  refine aw.pick [0,3,4,5,7,8] (S':=[(0,zP u 0),(3,zP b2 0),(4,zP b5 0),(5,.int .i64 0),(7,zP b57 0),(8,.int .i64 0)]) zk ?_
  exact aw.bD (b57,tg68,ab71,bm60,bc72,ax69,cx70,dq73,gd74,ao61,co62) rfl ⟨hbm63,htg75,hci276,hout77,hs83⟩
 rintro⟨b84,tg85,ab86,bm87,bc88,ax89,cx90,dq91,gd92,ao93,co94⟩ w95 ⟨hbm98,htg99,hci100,hout101,hs96⟩
 have hbm98:bm87=gk (⟨2,((k:Nat)+1),aA k,bd,aH⟩:an):=hbm98
 have htg99:tg85=eM 2 ((k:Nat)+1) bm87:=htg99
 have hci100:bz dq91 0 (1-wq) (c+1) (dy (k+1) bm87):=hci100
 have hout101:(∀ a,(a<0\/0+20<=a)->dq91 a=D a):=hout101
 have hs97:St w0 (ah b84 (aO.cells tg85) 34::ah ub #[zP cb 0,.int .i64 2,.int .u64 ((k:Nat)+1),.slice ab86 bm87.length bc88] 126::ah cb #[zP d 0,.int .i64 0,.slice ax89 ((dy (k+1) bm87).length) cx90,.int .i64 ((1-wq):Nat),.bool false] 197::Sl ab86 bc88 5 1 af bm87::DK d dq91 0 gd92::Sl ao93 co94 5 1 af bm87::ah b5 (an.cells dm) 43::ah b2 (an.cells (⟨2,((k:Nat)+1),aA k,bd,aH⟩:an)) 43::ah u #[.int .i64 5,.int .i64 2,zP r 0,zP ub 0,zP bk 0,.int .i64 0] 66::RP r 2 k rg::Sl ab bc 5 1 af bo::ah bk #[zP d 0,.int .i64 (cG 40 rs:Nat),.int .i64 (8212:Nat),.int .u64 1,.int .i64 (k:Nat),.bool false] 138::L) w95:=hs96
 refine aw.cq (S':=[(0,zP u 0),(3,zP b2 0),(4,zP b5 0),(5,.int .i64 0),(7,zP b84 0),(8,.int .i64 0)]) rfl ?_
 refine En (Lt (Ls (Ls (La (Lt (LF (Lk (Lt (Ls (Dz ?_))))))))))
 have hgd:uo k bd tg85:=by rw [htg99,hbm98];exact uo.E3 hm hmay hq5
 have hbl0:bm87.length<=1024:=by rw [hbm98];exact lH
 have hbb0:∀ z∈bm87,0<=z/\z<256:=by rw [hbm98];exact kY hm
 have hb20:∃ l,bm87=2::l:=by rw [hbm98];exact B7 hmay
 refine bL [2] (du 0 0 0 32 (aO.cells tg85) hs97 Hz) ?_
 refine Zv (b:=b2) (off:=89) (v:=.agg (aO.cells tg85)) (ti:=Tryz.t34) zk hs97 7 (cs':=an.cells (⟨2,((k:Nat)+1),aA k,bd,tg85⟩:an)) ?_
 intro w102 hs103
 refine Lo (Ld (Lt (Ls (Ls (Dz ?_)))))
 refine bL [2,3] (du 1 7 0 121 (an.cells (⟨2,((k:Nat)+1),aA k,bd,tg85⟩:an)) hs103 Hz) ?_
 refine ar.aW rfl zk (t:=174) (e:=43) (n:=1) (ps:=[(0,.agg (an.cells (⟨2,((k:Nat)+1),aA k,bd,tg85⟩:an)))]) zk zk (ti:=Tryz.t43) (z:=.agg (an.cells dm)) zk zk zf zf (cs:=an.cells (⟨2,((k:Nat)+1),aA k,bd,tg85⟩:an)) zk hs103 ?_
 intro b104 w105 hs106 hz107
 have hs108:St w0 (Sl (some ⟨b104,0,none⟩) 1 43 121 an.cells ([((⟨2,((k:Nat)+1),aA k,bd,tg85⟩:an):an)])::ah b84 (aO.cells tg85) 34::ah ub #[zP cb 0,.int .i64 2,.int .u64 ((k:Nat)+1),.slice ab86 bm87.length bc88] 126::ah cb #[zP d 0,.int .i64 0,.slice ax89 ((dy (k+1) bm87).length) cx90,.int .i64 ((1-wq):Nat),.bool false] 197::Sl ab86 bc88 5 1 af bm87::DK d dq91 0 gd92::Sl ao93 co94 5 1 af bm87::ah b5 (an.cells dm) 43::ah b2 (an.cells (⟨2,((k:Nat)+1),aA k,bd,tg85⟩:an)) 43::ah u #[.int .i64 5,.int .i64 2,zP r 0,zP ub 0,zP bk 0,.int .i64 0] 66::RP r 2 k rg::Sl ab bc 5 1 af bo::ah bk #[zP d 0,.int .i64 (cG 40 rs:Nat),.int .i64 (8212:Nat),.int .u64 1,.int .i64 (k:Nat),.bool false] 138::L) w105:=St.ey (l:=[((⟨2,((k:Nat)+1),aA k,bd,tg85⟩:an):an)]) (f:=an.cells) hs106 hz107 xQ.size zh zk
 refine Lo (Dz ?_)
 have hs109:=(((hs108.pl 5).pl 12).pl 2).pl 10
 refine aF Tryz.call75 (tY (⟨2,((k:Nat)+1),aA k,bd,tg85⟩:an) (cG 40 rs) k (by first|exact hm|exact hgd.ok) (by first|exact hmay|exact hgd.may) za za (λw h=>hr _ (h.drop 9)) hs109) ?_
 rintro v115 w116 ⟨dq110,gd111,rfl,hrec112,hout113,hs114⟩
 refine Lo (aL (Lt (Ls (La (Lt (LF (Lk (Lt (Ls (Dz ?_))))))))))
 refine aE.aV [0,1,3,7,0,31] (.rd 0 (.rd 1 (.rd 2 (.rd 3 (.rd 4 (.ef 5 .done)))))) zk zk ai zk hs114 ?_
 intro w117 hs118 hw119
 refine Zj (Hl 3 0 2 hs118 (du 4 10 0 121 (an.cells (⟨2,((k:Nat)+1),aA k,bd,tg85⟩:an)) hs118 Hz)) ?_
 have hs120:=hs118.pl 11
 refine aF Tryz.call64 (mN k bd tg85 2 rg (by first|exact hm|exact hgd.ok) (by first|exact hmay|exact hgd.may) hq5 hqs hgd.right (λw h=>hTab w (h.drop 12)) (λw h=>hr _ (h.drop 12)) hs120) ?_
 rintro v123 w124 ⟨rg121,rfl,hs122⟩
 refine Lo (Ld (Lt (Ls (Dz ?_))))
 refine bL [1] (du 0 11 0 121 (an.cells (⟨2,((k:Nat)+1),aA k,bd,tg85⟩:an)) hs122 Hz) ?_
 refine Zv (b:=b5) (off:=0) (v:=.agg (an.cells (⟨2,((k:Nat)+1),aA k,bd,tg85⟩:an))) (ti:=Tryz.t43) zk hs122 10 (cs':=an.cells (⟨2,((k:Nat)+1),aA k,bd,tg85⟩:an)) ?_
 intro w125 hs126
 refine Lo (aL (Lt (Le (Dz ?_))))
 refine aw.done (.inl rfl) (v:=.tuple #[.agg (an.cells (⟨2,((k:Nat)+1),aA k,bd,tg85⟩:an)),.int .i64 0]) (λa hf=>fP rfl zk zk (ti:=Tryz.t43) zk zk (vs:=an.cells (⟨2,((k:Nat)+1),aA k,bd,tg85⟩:an)) zk (hs126.cells 10 0 rfl zk) a hf) ?_
 have hs127:St w0 (RP r 2 (k+1) rg121::ah u #[.int .i64 5,.int .i64 2,zP r 0,zP ub 0,zP bk 0,.int .i64 0] 66::Sl (some ⟨b104,0,none⟩) 1 43 121 an.cells ([(⟨2,((k:Nat)+1),aA k,bd,tg85⟩:an)])::ah bk #[zP d 0,.int .i64 (cG 40 (rs++[fI (⟨2,((k:Nat)+1),aA k,bd,tg85⟩:an)]):Nat),.int .i64 (8212:Nat),.int .u64 1,.int .i64 (k+1:Nat),.bool false] 138::DK d dq110 0 gd111::ah b84 (aO.cells tg85) 34::ah ub #[zP cb 0,.int .i64 2,.int .u64 ((k:Nat)+1),.slice ab86 bm87.length bc88] 126::ah cb #[zP d 0,.int .i64 0,.slice ax89 ((dy (k+1) bm87).length) cx90,.int .i64 ((1-wq):Nat),.bool false] 197::Sl ab86 bc88 5 1 af bm87::Sl ao93 co94 5 1 af bm87::ah b5 (an.cells (⟨2,((k:Nat)+1),aA k,bd,tg85⟩:an)) 43::ah b2 (an.cells (⟨2,((k:Nat)+1),aA k,bd,tg85⟩:an)) 43::Sl ab bc 5 1 af bo::L) w125:=by rw [oN];exact hs126
 have hs128:=((((((hs127.pl 4).pl 4).pl 8).pl 8).pl 8).pl 5).pl 6
 have hs129:St w0 (DU u d (k+1) (rs++[fI (⟨2,((k:Nat)+1),aA k,bd,tg85⟩:an)]) (⟨r,ub,cb,bk,rg121,(1-wq),(c+1),ax89,cx90,ab86,bc88,bm87,dq110,gd111⟩)::Sl (some ⟨b104,0,none⟩) 1 43 121 an.cells ([(⟨2,((k:Nat)+1),aA k,bd,tg85⟩:an)])::ah b84 (aO.cells tg85) 34::Sl ao93 co94 5 1 af bm87::ah b5 (an.cells (⟨2,((k:Nat)+1),aA k,bd,tg85⟩:an)) 43::ah b2 (an.cells (⟨2,((k:Nat)+1),aA k,bd,tg85⟩:an)) 43::Sl ab bc 5 1 af bo::L) w125:=Bd.close (hd.add hk ⟨bd,tg85,hgd,rfl⟩ hbl0 hbb0 hb20 hci100 hout101 hrec112 hout113) hs128
 have hs130:=((((((hs129.pl 0).pl 6).pl 6).pl 6).pl 6).pl 6).pl 6
 have hs131:=hs130.dr 6
 exact⟨tg85,⟨r,ub,cb,bk,rg121,(1-wq),(c+1),ax89,cx90,ab86,bc88,bm87,dq110,gd111⟩,rfl,hgd,hs131⟩
theorem wx {w0 w:World}{L:List aI}{uc:Nat}{u:Nat}{r:Nat}{us:Nat}{bk:Nat}(q:aT) (hs:St w0 (ah uc #[zP u 0] 28::ah u #[.int .i64 5,.int .i64 2,zP r 0,zP us 0,zP bk 0,.int .i64 0] 66::L) w):Calls Tryz.prog 30 #[.agg (aT.cells q),zP uc 0] w (aZ λrv w'=>rv=.bool (decide ((q.rp:Int)>5))/\St w0 (ah uc #[zP u 0] 28::ah u #[.int .i64 5,.int .i64 2,zP r 0,zP us 0,zP bk 0,.int .i64 0] 66::L) w'):=by
 refine bp Tryz.func30 Tryz.ntmps30 ?_
 refine En (Ls (Lg [0] (Dz ?_)))
 refine ar.box rfl rfl zk (v:=.agg (aT.cells q)) zk hs (cs:=aT.cells q) zk ?_
 intro b1 w2 hs3
 refine Lo (aL (Lt (Ls (Dz ?_))))
 refine aE.aV [0,1,0,4,12,28,63,127] (.rd 0 (.rd 1 (.rd 2 (.rd 3 (.rd 4 (.rd 5 (.rd 6 (.rd 7 .done)))))))) zk zk ai zk hs3 ?_
 intro w4 hs5 hw6
 refine gY (Hl 1 0 0 hs5 (Hl 2 1 0 hs5 (Hl 5 2 0 hs5 Hz))) ?_
 refine Zt (Ze (?_))
 refine bg (v:=.bool (decide ((q.rp:Int)>5))) ?_
 have hs7:=hs5.dr 1
 exact⟨rfl,hs7⟩
theorem yW {w0 w:World}{L:List aI}{al:Option Addr}{cl:Nat}{uc:Nat}{u:Nat}{r:Nat}{us:Nat}{bk:Nat}(l:List aT) (hll:l.length<=100000) (hr:∀ w,St w0 L w->ag w al l.length 2 (λk=>aT.cells (l.getD k aR))) (hs:St w0 (ah uc #[zP u 0] 28::ah u #[.int .i64 5,.int .i64 2,zP r 0,zP us 0,zP bk 0,.int .i64 0] 66::L) w):Calls Tryz.prog 29 #[.slice al l.length cl,.func (.func 30) #[] #[zP uc 0]] w (aZ λrv w'=>rv=.bool (l.any (λq=>decide ((q.rp:Int)>5)))/\St w0 (ah uc #[zP u 0] 28::ah u #[.int .i64 5,.int .i64 2,zP r 0,zP us 0,zP bk 0,.int .i64 0] 66::L) w'):=by
 refine Calls.ret (mj l 30 uc (tv [ah uc #[zP u 0] 28,ah u #[.int .i64 5,.int .i64 2,zP r 0,zP us 0,zP bk 0,.int .i64 0] 66]) (λq=>decide ((q.rp:Int)>5)) hll Tryz.call30 (λq L w h=>?_) hr (St.ki (l:=[_,_]) hs)) ?_
 ·refine Calls.ret (wx  q  (St.splits h)) ?_
  rintro v w2 ⟨rfl,h2⟩
  exact⟨rfl,St.ki (l:=[_,_]) h2⟩
 ·rintro v w2 ⟨rfl,h2⟩
  exact⟨rfl,St.splits h2⟩
theorem fa.DZ {k:Nat}{bd:aK}(hb:eI bd) (hk:k<20):fa (⟨2,((k:Nat)+1),aA k,bd,aH⟩:an):=by
 refine⟨⟨show(-9223372036854775808:Int)<=2 by decide,show(2:Int)<=9223372036854775807 by decide⟩,⟨by show 0<=((k:Nat):Int)+1;omega,by show((k:Nat):Int)+1<=18446744073709551615;omega⟩,λx hx=>?_,hb,ep⟩
 have hx2:x∈(aA k).toList:=hx
 obtain⟨i,hi,rfl⟩:=List.mem_iff_getElem.1 hx2
 have e:=dL k i
 rw [List.getD_eq_getElem?_getD,List.getElem?_eq_getElem hi] at e
 have e2:(aA k).toList[i]=if i=1 then ((k:Nat):Int) else 0:=e
 rw [e2]
 split<;>constructor<;>omega
theorem yX {w0 w:World}{L:List aI}{uc:Nat}{bb:Nat}{eb:Nat}{mb:Nat}{u:Nat}{d:Nat}(k:Nat) (bd:aK) (rs:List (List Int)) (ug:Bh) (hb:eI bd) (hqs:Nn bd.qa bd.qc) (hk:k<20) (hTab:∀ w,St w0 L w->cQ w) (hr:∀ w,St w0 L w->ag w bd.qa bd.ql.length 2 (λk=>aT.cells (bd.ql.getD k aR))) (hs:St w0 (ah uc #[zP u 0] 28::ah bb (aK.cells bd) 39::ah eb #[.int .i64 0] 26::ah mb (an.cells dm) 43::DU u d k rs ug::L) w):Calls Tryz.prog 26 #[zP uc 0,zP bb 0,zP eb 0,zP mb 0] w (aZ λrv w'=>(rv=.tuple #[]/\True/\St w0 (ah uc #[zP u 0] 28::ah bb (aK.cells bd) 39::ah eb #[.int .i64 1] 26::ah mb (an.cells dm) 43::DU u d k rs ug::L) w')\/(∃ (tg2:aO) (ug2:Bh),rv=.tuple #[]/\uo k bd tg2/\St w0 (ah uc #[zP u 0] 28::ah bb (aK.cells bd) 39::ah eb #[.int .i64 0] 26::ah mb (an.cells (⟨2,((k:Nat)+1),aA k,bd,tg2⟩:an)) 43::DU u d (k+1) (rs++[fI (⟨2,((k:Nat)+1),aA k,bd,tg2⟩:an)]) ug2::L) w')):=by
 obtain⟨r,ub,cb,bk,rg,wq,c,ao,co,ab,bc,bo,D,dg⟩:=ug
 obtain⟨hd0,hs10⟩:=Bd.open (hs.pull 4 rfl)
 have hs1:St w0 (ah u #[.int .i64 5,.int .i64 2,zP r 0,zP ub 0,zP bk 0,.int .i64 0] 66::RP r 2 k rg::ah ub #[zP cb 0,.int .i64 2,.int .u64 (k:Nat),.slice ab bo.length bc] 126::ah cb #[zP d 0,.int .i64 (0:Nat),.slice ao ((dy k bo).length) co,.int .i64 (wq:Nat),.bool false] 197::Sl ab bc 5 1 af bo::ah bk #[zP d 0,.int .i64 (cG 40 rs:Nat),.int .i64 (8212:Nat),.int .u64 1,.int .i64 (k:Nat),.bool false] 138::DK d D 0 dg::ah uc #[zP u 0] 28::ah bb (aK.cells bd) 39::ah eb #[.int .i64 0] 26::ah mb (an.cells dm) 43::L) w:=hs10
 have hd:oT D wq c bo k rs:=hd0
 have hm:fa (⟨2,((k:Nat)+1),aA k,bd,aH⟩:an):=fa.DZ hb hk
 refine bp Tryz.func26 Tryz.ntmps26 ?_
 refine Zs (?_)
 refine bL [4,5,6] (Hl 0 7 0 hs1 (Hl 3 0 2 hs1 Hz)) ?_
 have hs2:=hs1.pl 1
 refine aF Tryz.call27 (iQ 2 k rg za hs2) ?_
 rintro v4 w5 ⟨rfl,hs3⟩
 refine Lo (Dz ?_)
 refine ar.alloc rfl rfl zk (z:=.agg (aD.cells mw)) zk hs3 (cs:=aD.cells mw) zk ?_
 intro b6 w7 hs8
 refine Lo (Dz ?_)
 refine Zv (b:=b6) (off:=0) (v:=.agg (aD.cells (aA k))) (ti:=Tryz.t41) zk hs8 0 (cs':=aD.cells (aA k)) ?_
 intro w9 hs10
 refine Lo (Ld (Lt (Ls (Dz ?_))))
 have hdk1:(aA k)[1]=((k:Nat):Int):=rfl
 refine aE.aV [0,1,3,7,0,16,48,112,240,496,1008,2032,0,0,16383,0,65535] (.rd 0 (.rd 1 (.rd 2 (.rd 3 (.rd 4 (.rd 5 (.rd 6 (.rd 7 (.rd 8 (.rd 9 (.rd 10 (.rd 11 (.rd 12 (.rd 13 (.rd 14 (.ef 15 (.ef 16 .done))))))))))))))))) zk zk ai zk hs10 ?_
 intro w11 hs12 hw13
 refine Zj (Hl 0 8 0 hs12 (Hl 3 2 1 hs12 (Hl 4 8 0 hs12 (Hl 7 2 1 hs12 (Hx 9 (1:Int) (11:Int) b6 0 1 (Hl 10 0 1 hs12 (qU 11 (((aA k)[1])+1) (du 12 0 0 11 (aD.cells (aA k)) hs12 (du 13 9 0 76 (aK.cells bd) hs12 Hz))))))))) ?_
 refine ar.alloc rfl rfl zk (z:=.agg (an.cells dm)) zk hs12 (cs:=an.cells dm) zk ?_
 intro b14 w15 hs16
 refine⟨bw (n:=[.prop (Array.size (aK.cells bd)=76),.cells ⟨bb,0,none⟩ (aK.cells bd),.prop (Array.size (aD.cells (aA k))=11),.cells ⟨b6,0,none⟩ (aD.cells (aA k)),.prop (Value.int .u64 (IntKind.u64.wrap (((aA k)[1])+1))=Value.int .u64 (((aA k)[1])+1)),.cell ⟨b6,1,none⟩ (.int .u64 ((aA k)[1])),.prop (0<=(1:Int)/\(1:Int)<(11:Int)),.prop (Value.pointer (some (Addr.add ⟨b6,0,none⟩ (Int.toNat 1*1)))=Value.pointer (some ⟨b6,1,none⟩)),.cell ⟨u,1,none⟩ (.int .i64 2),.cell ⟨uc,0,none⟩ (zP u 0),.cell ⟨u,1,none⟩ (.int .i64 2),.cell ⟨uc,0,none⟩ (zP u 0)]) zk (aB zk (dq (hs16.cells 10 0 rfl zk) (aB zk (dq (hs16.cells 1 0 rfl zk) (aB (nB za za) (aG (hs16.cell 1 rfl zk) (aB za (aB (aS _ _ _) (aG (hs16.cell 3 rfl zk) (aG (hs16.cell 9 rfl zk) (aG (hs16.cell 3 rfl zk) (aG (hs16.cell 9 rfl zk) av)))))))))))),?_⟩
 refine Zv (b:=b14) (off:=0) (v:=.agg (an.cells (⟨2,((aA k)[1])+1,aA k,bd,aH⟩:an))) (ti:=Tryz.t43) zk hs16 0 (cs':=an.cells (⟨2,((aA k)[1])+1,aA k,bd,aH⟩:an)) ?_
 intro w17 hs18
 refine Lo (Ld (Lt (Ls (Ls (Dz ?_)))))
 have hs19:St w0 (ah b14 (an.cells (⟨2,((k:Nat)+1),aA k,bd,aH⟩:an)) 43::ah b6 (aD.cells (aA k)) 41::RP r 2 k rg::ah u #[.int .i64 5,.int .i64 2,zP r 0,zP ub 0,zP bk 0,.int .i64 0] 66::ah ub #[zP cb 0,.int .i64 2,.int .u64 (k:Nat),.slice ab bo.length bc] 126::ah cb #[zP d 0,.int .i64 (0:Nat),.slice ao ((dy k bo).length) co,.int .i64 (wq:Nat),.bool false] 197::Sl ab bc 5 1 af bo::ah bk #[zP d 0,.int .i64 (cG 40 rs:Nat),.int .i64 (8212:Nat),.int .u64 1,.int .i64 (k:Nat),.bool false] 138::DK d D 0 dg::ah uc #[zP u 0] 28::ah bb (aK.cells bd) 39::ah eb #[.int .i64 0] 26::ah mb (an.cells dm) 43::L) w17:=hs18
 refine bL [1,7] (du 0 0 0 121 (an.cells (⟨2,((k:Nat)+1),aA k,bd,aH⟩:an)) hs19 Hz) ?_
 refine aF (f:=28) (args:=#[.agg (an.cells (⟨2,((k:Nat)+1),aA k,bd,aH⟩:an))]) Tryz.call28 (gM (⟨2,((k:Nat)+1),aA k,bd,aH⟩:an) hm (λw h=>hr _ (h.drop 13)) hs19) ?_
 rintro v21 w22 ⟨rfl,hs20⟩
 refine Lo (Dz ?_)
 refine Zr 2 2 [] ?_
 rcases Bool.eq_false_or_eq_true (!(cZ (⟨2,((k:Nat)+1),aA k,bd,aH⟩:an))) with h23|h23
 ·refine di 29 true h23 ?_
  have h23n:(cZ (⟨2,((k:Nat)+1),aA k,bd,aH⟩:an))=false:=kL h23
  refine En (Lu (Dz ?_))
  refine ar.skip rfl zk cK ?_
  refine En (aL (Lt (LT (Ls (Lg [0] (Dz ?_))))))
  refine Zv (b:=eb) (off:=0) (v:=.int .i64 1) (ti:=Tryz.t26) zk hs20 11 (cs':=#[.int .i64 1]) ?_
  intro w24 hs25
  refine Lo (Ld (Lt (Le (Ly (Dz ?_)))))
  refine aw.done (.inl rfl) (λa hf=>results0 rfl a hf) ?_
  have hs26:=((((((hs25.pl 8).pl 8).pl 8).pl 8).pl 8).pl 7).pl 8
  have hs27:St w0 (DU u d k rs (⟨r,ub,cb,bk,rg,wq,c,ao,co,ab,bc,bo,D,dg⟩)::ah b14 (an.cells (⟨2,((k:Nat)+1),aA k,bd,aH⟩:an)) 43::ah b6 (aD.cells (aA k)) 41::ah uc #[zP u 0] 28::ah bb (aK.cells bd) 39::ah eb #[.int .i64 1] 26::ah mb (an.cells dm) 43::L) w24:=Bd.close hd hs26
  have hs28:=((((((hs27.pl 0).pl 6).pl 6).pl 6).pl 6).pl 6).pl 6
  have hs29:=hs28.dr 2
  exact .inl ⟨rfl,trivial,hs29⟩
 ·refine di 29 false h23 ?_
  have h23n:(cZ (⟨2,((k:Nat)+1),aA k,bd,aH⟩:an))=true:=km h23
  refine Zj (Hl 5 10 43 hs20 Hz) ?_
  have hs30:=(hs20.pl 3).pl 9
  refine aF (f:=29) (args:=#[.slice bd.qa bd.ql.length bd.qc,.func (.func 30) #[] #[zP uc 0]]) Tryz.call29 (yW bd.ql (by have:=iO (m:=(⟨2,((k:Nat)+1),aA k,bd,aH⟩:an)) (by simpa using h23);simp only at this;omega) (λw h=>hr _ (h.drop 11)) hs30) ?_
  rintro v32 w33 ⟨rfl,hs31⟩
  refine Lo (aL (Lt (Dz ?_)))
  refine cS (t:=bd.ql.any (λq=>decide ((q.rp:Int)>5))) (λh34=>?_) (λh34=>?_)
  ·refine En (Ls (Lg [0] (Dz ?_)))
   refine Zv (b:=eb) (off:=0) (v:=.int .i64 1) (ti:=Tryz.t26) zk hs31 11 (cs':=#[.int .i64 1]) ?_
   intro w35 hs36
   refine Lo (Ld (Lt (Le (Ly (Dz ?_)))))
   refine aw.done (.inl rfl) (λa hf=>results0 rfl a hf) ?_
   have hs37:=((((((hs36.pl 9).pl 9).pl 9).pl 9).pl 9).pl 9).pl 7
   have hs38:St w0 (DU u d k rs (⟨r,ub,cb,bk,rg,wq,c,ao,co,ab,bc,bo,D,dg⟩)::ah uc #[zP u 0] 28::ah b14 (an.cells (⟨2,((k:Nat)+1),aA k,bd,aH⟩:an)) 43::ah b6 (aD.cells (aA k)) 41::ah bb (aK.cells bd) 39::ah eb #[.int .i64 1] 26::ah mb (an.cells dm) 43::L) w35:=Bd.close hd hs37
   have hs39:=((((((hs38.pl 0).pl 6).pl 6).pl 6).pl 4).pl 6).pl 6
   have hs40:=hs39.dr 2
   exact .inl ⟨rfl,trivial,hs40⟩
  ·refine Zk (Zt (?_))
   have hs41:=((((((hs31.pl 9).pl 9).pl 9).pl 9).pl 9).pl 9).pl 7
   have hs42:St w0 (DU u d k rs (⟨r,ub,cb,bk,rg,wq,c,ao,co,ab,bc,bo,D,dg⟩)::ah uc #[zP u 0] 28::ah b14 (an.cells (⟨2,((k:Nat)+1),aA k,bd,aH⟩:an)) 43::ah b6 (aD.cells (aA k)) 41::ah bb (aK.cells bd) 39::ah eb #[.int .i64 0] 26::ah mb (an.cells dm) 43::L) w33:=Bd.close hd hs41
   refine bL [2,6,7] (Hl 0 1 0 hs42 (du 1 2 0 121 (an.cells (⟨2,((k:Nat)+1),aA k,bd,aH⟩:an)) hs42 Hz)) ?_
   refine aF Tryz.call31 (tZ k bd rs (⟨r,ub,cb,bk,rg,wq,c,ao,co,ab,bc,bo,D,dg⟩) hm (by simpa using h23) h34 hqs zc (λw h=>hTab w (h.drop 6)) (λw h=>hr _ (h.drop 6)) hs42) ?_
   rintro v47 w48 ⟨tg43,ug44,rfl,hgd45,hs46⟩
   refine Lo (Lu (Dz ?_))
   refine Zv (b:=mb) (off:=0) (v:=.agg (an.cells (⟨2,((k:Nat)+1),aA k,bd,tg43⟩:an))) (ti:=Tryz.t43) zk hs46 6 (cs':=an.cells (⟨2,((k:Nat)+1),aA k,bd,tg43⟩:an)) ?_
   intro w49 hs50
   refine Lo (Dz ?_)
   refine Zv (b:=eb) (off:=0) (v:=.int .i64 0) (ti:=Tryz.t26) zk hs50 5 (cs':=#[.int .i64 0]) ?_
   intro w51 hs52
   refine Lo (Ld (Dz ?_))
   refine aw.done (.inr rfl) (λa hf=>results0 rfl a hf) ?_
   have hs53:=((((((hs52.pl 0).pl 6).pl 6).pl 6).pl 4).pl 6).pl 6
   have hs54:=hs53.dr 2
   exact .inr (⟨tg43,ug44,rfl,hgd45,hs54⟩)
theorem rU {w0 w:World}{L:List aI}{uc:Nat}{bb:Nat}{eb:Nat}{mb:Nat}{u:Nat}{d:Nat}(k:Nat) (bd:aK) (rs:List (List Int)) (ug:Bh) (hb:eI bd) (hqs:Nn bd.qa bd.qc) (hk:k<20) (hTab:∀ w,St w0 L w->cQ w) (hr:∀ w,St w0 L w->ag w bd.qa bd.ql.length 2 (λk=>aT.cells (bd.ql.getD k aR))) (hs:St w0 (ah uc #[zP u 0] 28::ah bb (aK.cells bd) 39::ah eb #[.int .i64 0] 26::ah mb (an.cells dm) 43::DU u d k rs ug::L) w):Calls Tryz.prog 25 #[zP u 0,.func (.func 26) #[] #[zP uc 0,zP bb 0,zP eb 0,zP mb 0]] w (aZ λrv w'=>(rv=.int .i64 0/\True/\St w0 (ah uc #[zP u 0] 28::ah bb (aK.cells bd) 39::ah eb #[.int .i64 1] 26::ah mb (an.cells dm) 43::DU u d k rs ug::L) w')\/(∃ (tg2:aO) (ug2:Bh),rv=.int .i64 0/\uo k bd tg2/\St w0 (ah uc #[zP u 0] 28::ah bb (aK.cells bd) 39::ah eb #[.int .i64 0] 26::ah mb (an.cells (⟨2,((k:Nat)+1),aA k,bd,tg2⟩:an)) 43::DU u d (k+1) (rs++[fI (⟨2,((k:Nat)+1),aA k,bd,tg2⟩:an)]) ug2::L) w')):=by
 obtain⟨r,ub,cb,bk,rg,wq,c,ao,co,ab,bc,bo,D,dg⟩:=ug
 obtain⟨hd0,hs10⟩:=Bd.open (hs.pull 4 rfl)
 have hs1:St w0 (ah u #[.int .i64 5,.int .i64 2,zP r 0,zP ub 0,zP bk 0,.int .i64 0] 66::RP r 2 k rg::ah ub #[zP cb 0,.int .i64 2,.int .u64 (k:Nat),.slice ab bo.length bc] 126::ah cb #[zP d 0,.int .i64 (0:Nat),.slice ao ((dy k bo).length) co,.int .i64 (wq:Nat),.bool false] 197::Sl ab bc 5 1 af bo::ah bk #[zP d 0,.int .i64 (cG 40 rs:Nat),.int .i64 (8212:Nat),.int .u64 1,.int .i64 (k:Nat),.bool false] 138::DK d D 0 dg::ah uc #[zP u 0] 28::ah bb (aK.cells bd) 39::ah eb #[.int .i64 0] 26::ah mb (an.cells dm) 43::L) w:=hs10
 have hd:oT D wq c bo k rs:=hd0
 refine bp Tryz.func25 Tryz.ntmps25 ?_
 refine En (Ls (La (Lt (Ls (Lb (Ls (La (Lt (LF (Ls (Dz ?_)))))))))))
 refine bj (Hl 3 0 5 hs1 Hz) ?_
 refine En (Lt (LF (Lk (Lm (Lt (Ls (Dz ?_)))))))
 have hs2:St w0 (DU u d k rs (⟨r,ub,cb,bk,rg,wq,c,ao,co,ab,bc,bo,D,dg⟩)::ah uc #[zP u 0] 28::ah bb (aK.cells bd) 39::ah eb #[.int .i64 0] 26::ah mb (an.cells dm) 43::L) w:=Bd.close hd hs1
 refine En (Lg [1] (Lu (Dz ?_)))
 have hs3:=((((hs2.pl 0).pl 4).pl 4).pl 4).pl 4
 refine aF Tryz.call26 (yX k bd rs (⟨r,ub,cb,bk,rg,wq,c,ao,co,ab,bc,bo,D,dg⟩) hb hqs hk (λw h=>hTab w (h.drop 0)) (λw h=>hr _ (h.drop 0)) hs3) ?_
 rintro v10 w11 (⟨rfl,hno4,hs5⟩|⟨tg6,ug7,rfl,hgd8,hs9⟩)
 ·refine Lo (Ld (Lt (Ls (La (Lt (Le (Dz ?_)))))))
  refine bg (v:=.int .i64 0) ?_
  exact .inl ⟨rfl,trivial,hs5⟩
 ·refine Lo (Ld (Lt (Ls (La (Lt (Le (Dz ?_)))))))
  refine bg (v:=.int .i64 0) ?_
  exact .inr (⟨tg6,ug7,rfl,hgd8,hs9⟩)
theorem Bi {w0 w:World}{L:List aI}{u:Nat}{d:Nat}(k:Nat) (bd:aK) (rs:List (List Int)) (ug:Bh) (hb:eI bd) (hqs:Nn bd.qa bd.qc) (hk:k<20) (hTab:∀ w,St w0 L w->cQ w) (hr:∀ w,St w0 L w->ag w bd.qa bd.ql.length 2 (λk=>aT.cells (bd.ql.getD k aR))) (hs:St w0 (DU u d k rs ug::L) w):Calls Tryz.prog 8 #[zP u 0,.agg (aK.cells bd)] w (aZ λrv w'=>(rv=.tuple #[.agg (an.cells dm),.int .i64 1]/\True/\St w0 (DU u d k rs ug::L) w')\/(∃ (tg2:aO) (ug2:Bh),rv=.tuple #[.agg (an.cells (⟨2,((k:Nat)+1),aA k,bd,tg2⟩:an)),.int .i64 0]/\uo k bd tg2/\St w0 (DU u d (k+1) (rs++[fI (⟨2,((k:Nat)+1),aA k,bd,tg2⟩:an)]) ug2::L) w')):=by
 refine bp Tryz.func8 Tryz.ntmps8 ?_
 refine En (Ls (Lg [0,1,2,3] (Dz ?_)))
 refine ar.box rfl rfl zk (v:=zP u 0) zk hs (cs:=#[zP u 0]) zk ?_
 intro b1 w2 hs3
 refine Lo (Dz ?_)
 refine ar.box rfl rfl zk (v:=.agg (aK.cells bd)) zk hs3 (cs:=aK.cells bd) zk ?_
 intro b4 w5 hs6
 refine Lo (Dz ?_)
 refine ar.alloc rfl rfl zk (z:=.agg (an.cells dm)) zk hs6 (cs:=an.cells dm) zk ?_
 intro b7 w8 hs9
 refine Lo (Dz ?_)
 refine ar.alloc rfl rfl zk (z:=.int .i64 0) zk hs9 (cs:=#[.int .i64 0]) zk ?_
 intro b10 w11 hs12
 refine Lo (Ld (Lt (Ls (Dz ?_))))
 refine bL [2] (Hl 0 3 0 hs12 Hz) ?_
 have hs13:=((((hs12.pl 4).pl 2).pl 2).pl 3).pl 4
 refine aF Tryz.call25 (rU k bd rs ug hb hqs hk (λw h=>hTab w (h.drop 0)) (λw h=>hr _ (h.drop 0)) hs13) ?_
 rintro v20 w21 (⟨rfl,hno14,hs15⟩|⟨tg16,ug17,rfl,hgd18,hs19⟩)
 ·refine Lo (aL (Lt (Ls (Ls (La (Lt (LF (Lk (Lt (Ls (Dz ?_)))))))))))
  refine aE.aV [0,0,1,7] (.rd 0 (.rd 1 (.ef 2 (.ef 3 .done)))) zk zk ai zk hs15 ?_
  intro w22 hs23 hw24
  refine Zj (du 0 3 0 121 (an.cells dm) hs23 (Hl 1 2 0 hs23 Hz)) ?_
  refine Zv (b:=b7) (off:=0) (v:=.agg (an.cells dm)) (ti:=Tryz.t43) zk hs23 3 (cs':=an.cells dm) ?_
  intro w25 hs26
  refine⟨bw (n:=[.cell ⟨b10,0,none⟩ (.int .i64 1)]) zk (aG (hs26.cell 2 rfl zk) av),?_⟩
  refine Zv (b:=b10) (off:=0) (v:=.int .i64 1) (ti:=Tryz.t26) zk hs26 2 (cs':=#[.int .i64 1]) ?_
  intro w27 hs28
  refine Lo (Ld (Lt (Le (Dz ?_))))
  refine aw.done (.inl rfl) (v:=.tuple #[.agg (an.cells dm),.int .i64 1]) (λa hf=>gF rfl (RV.agg zk (ti:=Tryz.t43) zk zk (vs:=an.cells dm) zk (hs28.cells 3 0 rfl zk)) (RV.cell (b:=b10) (off:=0) zk zk zk (hs28.cell 2 rfl zk)) a hf) ?_
  have hs29:=hs28.dr 4
  exact .inl ⟨rfl,trivial,hs29⟩
 ·refine Lo (aL (Lt (Ls (Ls (La (Lt (LF (Lk (Lt (Ls (Dz ?_)))))))))))
  refine aE.aV [0,0,1,7] (.rd 0 (.rd 1 (.ef 2 (.ef 3 .done)))) zk zk ai zk hs19 ?_
  intro w30 hs31 hw32
  refine Zj (du 0 3 0 121 (an.cells (⟨2,((k:Nat)+1),aA k,bd,tg16⟩:an)) hs31 (Hl 1 2 0 hs31 Hz)) ?_
  refine Zv (b:=b7) (off:=0) (v:=.agg (an.cells (⟨2,((k:Nat)+1),aA k,bd,tg16⟩:an))) (ti:=Tryz.t43) zk hs31 3 (cs':=an.cells (⟨2,((k:Nat)+1),aA k,bd,tg16⟩:an)) ?_
  intro w33 hs34
  refine⟨bw (n:=[.cell ⟨b10,0,none⟩ (.int .i64 0)]) zk (aG (hs34.cell 2 rfl zk) av),?_⟩
  refine Zv (b:=b10) (off:=0) (v:=.int .i64 0) (ti:=Tryz.t26) zk hs34 2 (cs':=#[.int .i64 0]) ?_
  intro w35 hs36
  refine Lo (Ld (Lt (Le (Dz ?_))))
  refine aw.done (.inl rfl) (v:=.tuple #[.agg (an.cells (⟨2,((k:Nat)+1),aA k,bd,tg16⟩:an)),.int .i64 0]) (λa hf=>gF rfl (RV.agg zk (ti:=Tryz.t43) zk zk (vs:=an.cells (⟨2,((k:Nat)+1),aA k,bd,tg16⟩:an)) zk (hs36.cells 3 0 rfl zk)) (RV.cell (b:=b10) (off:=0) zk zk zk (hs36.cell 2 rfl zk)) a hf) ?_
  have hs37:=hs36.dr 4
  exact .inr (⟨tg16,ug17,rfl,hgd18,hs37⟩)
theorem jC {w0 w:World}{L:List aI}{ip:Nat}{d:Nat}{D:Nat->aC}{nk:Nat}{g:et}(n:Int) (i:Int) (k:Nat) (bo:List Int) (wq:Nat) (c:Int) (hi:1<=i) (him:i<=11) (hn0:k=0->bo=[]) (hn2:k<=65536) (hbl:bo.length<=1024) (hbb:∀ z∈bo,0<=z/\z<256) (hci:bz D 0 wq c (dy k bo)) (hTab:∀ w,St w0 L w->cQ w) (hs:St w0 (ah ip #[.int .i64 n,.int .i64 i,zP d 0,.pointer none,.slice none 0 0,.int .u8 0,.int .i64 0,.int .u64 0,.int .u64 0,.int .i64 0,.int .i64 0,.int .i64 0,.int .u64 0,.int .u64 0,.int .u64 0,.int .u64 0,.int .u64 0,.int .u64 0,.int .u64 0,.int .u64 0,.int .u64 0,.int .u64 0,.int .u64 0] 91::DK d D nk g::L) w):Calls Tryz.prog 81 #[zP ip 0] w (aZ λrv w'=>∃ (ub:Nat) (cb:Nat) (ab:Option Addr) (bc:Nat),rv=.bool false/\St w0 (ah ip #[.int .i64 n,.int .i64 i,zP d 0,zP ub 0,.slice none 0 0,.int .u8 0,.int .i64 0,.int .u64 (k:Nat),.int .u64 0,.int .i64 0,.int .i64 0,.int .i64 0,.int .u64 0,.int .u64 0,.int .u64 0,.int .u64 0,.int .u64 0,.int .u64 0,.int .u64 0,.int .u64 0,.int .u64 0,.int .u64 0,.int .u64 0] 91::ah ub #[zP cb 0,.int .i64 i,.int .u64 (k:Nat),.slice ab bo.length bc] 126::Sl ab bc 5 1 af bo::DK d D nk g::L) w'):=by
 refine bp Tryz.func81 Tryz.ntmps81 ?_
 refine En (Ls (La (Lt (Ls (Ls (Dz ?_))))))
 refine aE.aV [0,0,0,4,12,28,0,64,192,448,1020,2044,4092,4092,8189,24573,57341,131071,262143,524287,1048575] (.rd 0 (.rd 1 (.rd 2 (.rd 3 (.rd 4 (.rd 5 (.rd 6 (.rd 7 (.rd 8 (.rd 9 (.ef 10 (.rd 11 (.rd 12 (.rd 13 (.rd 14 (.rd 15 (.ef 16 (.rd 17 (.rd 18 (.rd 19 (.ef 20 .done))))))))))))))))))))) zk zk ai zk hs ?_
 intro w1 hs2 hw3
 refine Zj (Hl 5 0 1 hs2 (Hl 9 0 2 hs2 Hz)) ?_
 have hs4:=hs2.pl 1
 refine aF Tryz.call18 (qD 0 wq c i k bo zf zc zc hn0 zc zc hbb hci (λw h=>hTab w (h.drop 1)) hs4) ?_
 rintro v12 w13 ⟨ub5,cb6,ao7,co8,ab9,bc10,rfl,hs11⟩
 refine Lo (Lu (Dz ?_))
 refine Zv (b:=ip) (off:=3) (v:=zP ub5 0) (ti:=Tryz.t63) zk hs11 4 (cs':=#[.int .i64 n,.int .i64 i,zP d 0,zP ub5 0,.slice none 0 0,.int .u8 0,.int .i64 0,.int .u64 0,.int .u64 0,.int .i64 0,.int .i64 0,.int .i64 0,.int .u64 0,.int .u64 0,.int .u64 0,.int .u64 0,.int .u64 0,.int .u64 0,.int .u64 0,.int .u64 0,.int .u64 0,.int .u64 0,.int .u64 0]) ?_
 intro w14 hs15
 refine Lo (Lu (Dz ?_))
 refine Zv (b:=ip) (off:=6) (v:=.int .i64 0) (ti:=Tryz.t26) zk hs15 4 (cs':=#[.int .i64 n,.int .i64 i,zP d 0,zP ub5 0,.slice none 0 0,.int .u8 0,.int .i64 0,.int .u64 0,.int .u64 0,.int .i64 0,.int .i64 0,.int .i64 0,.int .u64 0,.int .u64 0,.int .u64 0,.int .u64 0,.int .u64 0,.int .u64 0,.int .u64 0,.int .u64 0,.int .u64 0,.int .u64 0,.int .u64 0]) ?_
 intro w16 hs17
 refine Lo (Ld (Lt (Ls (Dz ?_))))
 refine bj (Hl 4 4 6 hs17 Hz) ?_
 refine En (Lt (LF (Lk (Lt (Ls (Dz ?_))))))
 refine bL [5,13] (Hl 4 4 3 hs17 Hz) ?_
 have hs18:=(hs17.pl 2).pl 1
 refine aF Tryz.call65 (iN i k bo zc zc hn0 zc zc (λw h=>hTab w (h.drop 3)) hs18) ?_
 rintro v22 w23 ⟨ax19,cx20,rfl,hs21⟩
 refine Lo (Lu (Dz ?_))
 refine Zv (b:=ip) (off:=7) (v:=.int .u64 (k:Nat)) (ti:=Tryz.t31) zk hs21 5 (cs':=#[.int .i64 n,.int .i64 i,zP d 0,zP ub5 0,.slice none 0 0,.int .u8 0,.int .i64 0,.int .u64 (k:Nat),.int .u64 0,.int .i64 0,.int .i64 0,.int .i64 0,.int .u64 0,.int .u64 0,.int .u64 0,.int .u64 0,.int .u64 0,.int .u64 0,.int .u64 0,.int .u64 0,.int .u64 0,.int .u64 0,.int .u64 0]) ?_
 intro w24 hs25
 refine Lo (Ld (Lt (Ls (La (Lt (Le (Dz ?_)))))))
 refine bg (v:=.bool false) ?_
 have hs26:=(((((hs25.pl 4).pl 2).pl 2).pl 5).pl 5).pl 5
 have hs27:=hs26.dr 2
 exact⟨ub5,cb6,ab9,bc10,rfl,hs27⟩
theorem na {w0 w:World}{L:List aI}{ip:Nat}{d:Nat}{D:Nat->aC}{nk:Nat}{g:et}(n:Int) (i:Int) (hi:1<=i) (him:i<=11) (hZ:∀ a,0<=a->a<0+20->D a=fX) (hTab:∀ w,St w0 L w->cQ w) (hs:St w0 (ah ip #[.int .i64 n,.int .i64 i,zP d 0,.pointer none,.slice none 0 0,.int .u8 0,.int .i64 0,.int .u64 0,.int .u64 0,.int .i64 0,.int .i64 0,.int .i64 0,.int .u64 0,.int .u64 0,.int .u64 0,.int .u64 0,.int .u64 0,.int .u64 0,.int .u64 0,.int .u64 0,.int .u64 0,.int .u64 0,.int .u64 0] 91::DK d D nk g::L) w):Calls Tryz.prog 81 #[zP ip 0] w (aZ λrv w'=>rv=.bool true/\St w0 (ah ip #[.int .i64 n,.int .i64 i,zP d 0,.pointer none,.slice none 0 0,.int .u8 3,.int .i64 9,.int .u64 0,.int .u64 0,.int .i64 0,.int .i64 0,.int .i64 0,.int .u64 0,.int .u64 0,.int .u64 0,.int .u64 0,.int .u64 0,.int .u64 0,.int .u64 0,.int .u64 0,.int .u64 0,.int .u64 0,.int .u64 0] 91::DK d D nk g::L) w'):=by
 refine bp Tryz.func81 Tryz.ntmps81 ?_
 refine En (Ls (La (Lt (Ls (Ls (Dz ?_))))))
 refine aE.aV [0,0,0,4,12,28,0,64,192,448,1020,2044,4092,4092,8189,24573,57341,131071,262143,524287,1048575] (.rd 0 (.rd 1 (.rd 2 (.rd 3 (.rd 4 (.rd 5 (.rd 6 (.rd 7 (.rd 8 (.rd 9 (.ef 10 (.rd 11 (.rd 12 (.rd 13 (.rd 14 (.rd 15 (.ef 16 (.rd 17 (.rd 18 (.rd 19 (.ef 20 .done))))))))))))))))))))) zk zk ai zk hs ?_
 intro w1 hs2 hw3
 refine Zj (Hl 5 0 1 hs2 (Hl 9 0 2 hs2 Hz)) ?_
 have hs4:=hs2.pl 1
 refine aF Tryz.call18 (vN 0 0 0 i zf zc zc hZ (λw h=>hTab w (h.drop 1)) hs4) ?_
 rintro v6 w7 ⟨rfl,hs5⟩
 refine Lo (Lu (Dz ?_))
 refine Zv (b:=ip) (off:=3) (v:=.pointer none) (ti:=Tryz.t63) zk hs5 1 (cs':=#[.int .i64 n,.int .i64 i,zP d 0,.pointer none,.slice none 0 0,.int .u8 0,.int .i64 0,.int .u64 0,.int .u64 0,.int .i64 0,.int .i64 0,.int .i64 0,.int .u64 0,.int .u64 0,.int .u64 0,.int .u64 0,.int .u64 0,.int .u64 0,.int .u64 0,.int .u64 0,.int .u64 0,.int .u64 0,.int .u64 0]) ?_
 intro w8 hs9
 refine Lo (Lu (Dz ?_))
 refine Zv (b:=ip) (off:=6) (v:=.int .i64 9) (ti:=Tryz.t26) zk hs9 1 (cs':=#[.int .i64 n,.int .i64 i,zP d 0,.pointer none,.slice none 0 0,.int .u8 0,.int .i64 9,.int .u64 0,.int .u64 0,.int .i64 0,.int .i64 0,.int .i64 0,.int .u64 0,.int .u64 0,.int .u64 0,.int .u64 0,.int .u64 0,.int .u64 0,.int .u64 0,.int .u64 0,.int .u64 0,.int .u64 0,.int .u64 0]) ?_
 intro w10 hs11
 refine Lo (Ld (Lt (Ls (Dz ?_))))
 refine bj (Hl 4 1 6 hs11 Hz) ?_
 refine En (Lt (LT (Ls (Lg [4] (Lu (Dz ?_))))))
 refine Zv (b:=ip) (off:=5) (v:=.int .u8 3) (ti:=Tryz.t47) zk hs11 1 (cs':=#[.int .i64 n,.int .i64 i,zP d 0,.pointer none,.slice none 0 0,.int .u8 3,.int .i64 9,.int .u64 0,.int .u64 0,.int .i64 0,.int .i64 0,.int .i64 0,.int .u64 0,.int .u64 0,.int .u64 0,.int .u64 0,.int .u64 0,.int .u64 0,.int .u64 0,.int .u64 0,.int .u64 0,.int .u64 0,.int .u64 0]) ?_
 intro w12 hs13
 refine Lo (Ld (Lt (Ls (La (Lt (Le (Ly (Dz ?_))))))))
 refine bg (v:=.bool true) ?_
 have hs14:=(hs13.pl 0).pl 1
 exact⟨rfl,hs14⟩
theorem mP {w0 w:World}{L:List aI}{ip:Nat}{d:Nat}{D:Nat->aC}{nk:Nat}{g:et}{ub:Nat}(n:Int) (i:Int) (k:Nat) (lv:Nat) (w2:Nat) (c2:Int) (rs:List (List Int)) (hlv:lv<9000000000000000000) (hci:bz D 20 w2 c2 (iz lv)) (hbk:eQ D 40 0 rs) (hrs:rs.length<=1000) (hen:cG 40 rs<8212) (hs:St w0 (ah ip #[.int .i64 n,.int .i64 i,zP d 0,zP ub 0,.slice none 0 0,.int .u8 0,.int .i64 0,.int .u64 (k:Nat),.int .u64 0,.int .i64 0,.int .i64 0,.int .i64 0,.int .u64 0,.int .u64 0,.int .u64 0,.int .u64 0,.int .u64 0,.int .u64 0,.int .u64 0,.int .u64 0,.int .u64 0,.int .u64 0,.int .u64 0] 91::DK d D nk g::L) w):Calls Tryz.prog 82 #[zP ip 0] w (aZ λrv w'=>∃ (ll:List cM) (ra:Option Addr) (rc:Nat),rv=.bool false/\ll.map cM.pl=rs/\St w0 (ah ip #[.int .i64 n,.int .i64 i,zP d 0,zP ub 0,.slice ra ll.length rc,.int .u8 0,.int .i64 0,.int .u64 (k:Nat),.int .u64 (lv:Nat),.int .i64 (ll.length:Nat),.int .i64 (cG 40 rs:Nat),.int .i64 0,.int .u64 0,.int .u64 0,.int .u64 0,.int .u64 0,.int .u64 0,.int .u64 0,.int .u64 0,.int .u64 0,.int .u64 0,.int .u64 0,.int .u64 0] 91::DK d D nk g::Sl ra rc 85 1 cM.cells ll::QB ll::L) w'):=by
 refine bp Tryz.func82 Tryz.ntmps82 ?_
 refine En (Ls (La (Lt (Ls (Dz ?_)))))
 refine bL [8,17,20,24,28] (Hl 7 0 2 hs Hz) ?_
 have hs1:=hs.pl 1
 refine aF Tryz.call123 (vT 20 w2 c2 8192 lv rs zf zf zf zD hci hbk zD hen hs1) ?_
 rintro v7 w8 ⟨ll2,ra3,rc4,rfl,hll5,hs6⟩
 refine Lo (Lu (Dz ?_))
 refine Zv (b:=ip) (off:=8) (v:=.int .u64 (lv:Nat)) (ti:=Tryz.t31) zk hs6 3 (cs':=#[.int .i64 n,.int .i64 i,zP d 0,zP ub 0,.slice none 0 0,.int .u8 0,.int .i64 0,.int .u64 (k:Nat),.int .u64 (lv:Nat),.int .i64 0,.int .i64 0,.int .i64 0,.int .u64 0,.int .u64 0,.int .u64 0,.int .u64 0,.int .u64 0,.int .u64 0,.int .u64 0,.int .u64 0,.int .u64 0,.int .u64 0,.int .u64 0]) ?_
 intro w9 hs10
 refine Lo (Lu (Dz ?_))
 refine Zv (b:=ip) (off:=4) (v:=.slice ra3 ll2.length rc4) (ti:=Tryz.t67) zk hs10 3 (cs':=#[.int .i64 n,.int .i64 i,zP d 0,zP ub 0,.slice ra3 ll2.length rc4,.int .u8 0,.int .i64 0,.int .u64 (k:Nat),.int .u64 (lv:Nat),.int .i64 0,.int .i64 0,.int .i64 0,.int .u64 0,.int .u64 0,.int .u64 0,.int .u64 0,.int .u64 0,.int .u64 0,.int .u64 0,.int .u64 0,.int .u64 0,.int .u64 0,.int .u64 0]) ?_
 intro w11 hs12
 refine Lo (Lu (Dz ?_))
 refine Zv (b:=ip) (off:=10) (v:=.int .i64 (cG (20+20) rs:Nat)) (ti:=Tryz.t3) zk hs12 3 (cs':=#[.int .i64 n,.int .i64 i,zP d 0,zP ub 0,.slice ra3 ll2.length rc4,.int .u8 0,.int .i64 0,.int .u64 (k:Nat),.int .u64 (lv:Nat),.int .i64 0,.int .i64 (cG (20+20) rs:Nat),.int .i64 0,.int .u64 0,.int .u64 0,.int .u64 0,.int .u64 0,.int .u64 0,.int .u64 0,.int .u64 0,.int .u64 0,.int .u64 0,.int .u64 0,.int .u64 0]) ?_
 intro w13 hs14
 refine Lo (Lu (Dz ?_))
 refine Zv (b:=ip) (off:=6) (v:=.int .i64 0) (ti:=Tryz.t26) zk hs14 3 (cs':=#[.int .i64 n,.int .i64 i,zP d 0,zP ub 0,.slice ra3 ll2.length rc4,.int .u8 0,.int .i64 0,.int .u64 (k:Nat),.int .u64 (lv:Nat),.int .i64 0,.int .i64 (cG (20+20) rs:Nat),.int .i64 0,.int .u64 0,.int .u64 0,.int .u64 0,.int .u64 0,.int .u64 0,.int .u64 0,.int .u64 0,.int .u64 0,.int .u64 0,.int .u64 0,.int .u64 0]) ?_
 intro w15 hs16
 refine Lo (Ld (Lt (Ls (Ls (Dz ?_)))))
 refine bj (Hl 4 3 6 hs16 Hz) ?_
 refine En (Lt (LF (Lk (Lt (Ls (Dz ?_))))))
 refine bL [9] (Hl 4 3 4 hs16 Hz) ?_
 refine Zv (b:=ip) (off:=9) (v:=.int .i64 (ll2.length:Nat)) (ti:=Tryz.t3) zk hs16 3 (cs':=#[.int .i64 n,.int .i64 i,zP d 0,zP ub 0,.slice ra3 ll2.length rc4,.int .u8 0,.int .i64 0,.int .u64 (k:Nat),.int .u64 (lv:Nat),.int .i64 (ll2.length:Nat),.int .i64 (cG (20+20) rs:Nat),.int .i64 0,.int .u64 0,.int .u64 0,.int .u64 0,.int .u64 0,.int .u64 0,.int .u64 0,.int .u64 0,.int .u64 0,.int .u64 0,.int .u64 0,.int .u64 0]) ?_
 intro w17 hs18
 refine Lo (Ld (Lt (Ls (La (Lt (Le (Dz ?_)))))))
 refine bg (v:=.bool false) ?_
 have hs19:=(((hs18.pl 2).pl 2).pl 2).pl 3
 exact⟨ll2,ra3,rc4,rfl,hll5,hs19⟩
theorem D3 {ll:List cM}{rs:List (List Int)}(hll:ll.map cM.pl=rs) (h:pH rs){j:Nat}(hj:j<ll.length):xB j (ll.getD j qE).pl:=by
 have h1:=h j (by rw [<- hll,List.length_map];exact hj)
 rw [<- hll,List.getD_eq_getElem?_getD,List.getElem?_map,List.getElem?_eq_getElem hj] at h1
 rw [List.getD_eq_getElem?_getD,List.getElem?_eq_getElem hj]
 exact h1
theorem rV {w0 w:World}{L:List aI}{ip:Nat}{d:Nat}{ub:Nat}{rc:Nat}{ra:Option Addr}(i:Int) (k:Nat) (lv:Nat) (en:Nat) (ll:List cM) (rs:List (List Int)) (hi:1<=i/\i<=5) (hll:ll.map cM.pl=rs) (hgd:pH rs) (hfew:ll.length<=1000) (hTab:∀ w,St w0 L w->cQ w) (hs:St w0 (ah ip #[.int .i64 5,.int .i64 i,zP d 0,zP ub 0,.slice ra ll.length rc,.int .u8 0,.int .i64 0,.int .u64 (k:Nat),.int .u64 (lv:Nat),.int .i64 (ll.length:Nat),.int .i64 (en:Nat),.int .i64 0,.int .u64 0,.int .u64 0,.int .u64 0,.int .u64 0,.int .u64 0,.int .u64 0,.int .u64 0,.int .u64 0,.int .u64 0,.int .u64 0,.int .u64 0] 91::Sl ra rc 85 1 cM.cells ll::QB ll::L) w):Calls Tryz.prog 36 #[zP ip 0,.int .i64 (ll.length:Nat)] w (aZ λrv w'=>∃ (r:Nat) (rg2:rR) (ra2:Option Addr),rv=.tuple #[zP r 0,.int .i64 0]/\St w0 (ah ip #[.int .i64 5,.int .i64 i,zP d 0,zP ub 0,.slice ra2 ll.length rc,.int .u8 0,.int .i64 0,.int .u64 (k:Nat),.int .u64 (lv:Nat),.int .i64 (ll.length:Nat),.int .i64 (en:Nat),.int .i64 0,.int .u64 0,.int .u64 0,.int .u64 0,.int .u64 0,.int .u64 0,.int .u64 0,.int .u64 0,.int .u64 0,.int .u64 0,.int .u64 0,.int .u64 0] 91::Sl ra2 rc 85 1 cM.cells ll::QB ll::RP r i ll.length rg2::L) w'):=by
 refine bp Tryz.func36 Tryz.ntmps36 ?_
 refine En (Ls (La (Lt (Ls (Dz ?_)))))
 refine aE.aV [0,1,3,7,0,16,48,112,255,511,1023,1023,2047,8191] (.rd 0 (.rd 1 (.rd 2 (.rd 3 (.rd 4 (.rd 5 (.rd 6 (.rd 7 (.ef 8 (.rd 9 (.rd 10 (.rd 11 (.rd 12 (.rd 13 .done)))))))))))))) zk zk ai zk hs ?_
 intro w1 hs2 hw3
 refine Zj (Hl 3 0 0 hs2 (Hl 7 0 1 hs2 Hz)) ?_
 refine aF Tryz.call16 (kD i hi hs2) ?_
 rintro v7 w8 ⟨r4,rg5,rfl,hs6⟩
 refine Lo (aL (Lt (Ls (Ls (La (Lt (LF (Lk (Lt (Ls (Ls (Lg [] (Dz ?_)))))))))))))
 have hcap9:=Sl.cap (hs6.at_ 2 rfl)
 refine gY (Hl 3 1 4 hs6 (Hg 5 (.cI (.slice ra ((ll.take ll.length).length) rc) (.sub 0 ll.length)) [.prop (((ll.length:Nat):Int)=((ll.length:Nat):Int)),.prop (((none:Option Operand)=none->(0:Nat)=0)/\(some (Operand.tmp 29)=none->(ll.length:Nat)=ll.length)/\(0:Nat)<=ll.length/\(ll.length:Nat)<=rc),.prop (Value.slice (if rc=0 then ra else (ra:Option Addr).map (λa=>a.add (0*1))) (ll.length-0) (rc-0)=Value.slice ra ((ll.take ll.length).length) rc)] (aB za (aB ⟨(by first|(intro _;rfl)|(intro hc;cases hc)),(by first|(intro _;rfl)|(intro hc;cases hc)),za,za⟩ (aB (uE zA) av))) Hz)) ?_
 refine Zt (Zb (?_))
 refine Zn [(32,.int .i64 0),(31,.int .i64 ((ll.take ll.length).length:Nat)),(30,.slice ra ((ll.take ll.length).length) rc),(4,zP r4 0),(5,.int .i64 0)] ?_
 refine aE.cq (S':=[(32,.int .i64 0),(31,.int .i64 (ll.length:Nat)),(30,.slice ra ((ll.take ll.length).length) rc),(4,zP r4 0),(5,.int .i64 0)]) (by simp only [List.take_length]) ?_
 refine Zn [(32,.int .i64 0),(31,.int .i64 (ll.length:Nat)),(30,.slice ra ((ll.take ll.length).length) rc),(4,zP r4 0),(5,.int .i64 0)] ?_
 refine aE.cq (S':=[(32,.int .i64 0),(31,.int .i64 (ll.length:Nat)),(30,.slice ra ll.length rc),(4,zP r4 0),(5,.int .i64 0)]) (by simp only [List.take_length]) ?_
 have hs10:=(((hs6.pl 0).pl 3).pl 3).pl 3
 refine aE.loop (T:=Nat×(Option Addr)×rR) (λgg=>[(4,zP r4 0),(30,.slice gg.2.1 ll.length rc),(31,.int .i64 (ll.length:Nat)),(32,.int .i64 (gg.1:Nat))]) (λgg w=>(gg.1<=ll.length)/\St w0 (ah ip #[.int .i64 5,.int .i64 i,zP d 0,zP ub 0,.slice gg.2.1 ll.length rc,.int .u8 0,.int .i64 0,.int .u64 (k:Nat),.int .u64 (lv:Nat),.int .i64 (ll.length:Nat),.int .i64 (en:Nat),.int .i64 0,.int .u64 0,.int .u64 0,.int .u64 0,.int .u64 0,.int .u64 0,.int .u64 0,.int .u64 0,.int .u64 0,.int .u64 0,.int .u64 0,.int .u64 0] 91::Sl gg.2.1 rc 85 1 cM.cells ll::QB ll::RP r4 i gg.1 gg.2.2::L) w) (λgg=>ll.length-gg.1) (0,ra,rg5) [4,30,31,32] zk ⟨Nat.zero_le _,hs10⟩ ?_
 rintro⟨j,aq,rgj⟩ w11 ⟨hp0,hs12⟩
 have hp:j<=ll.length:=hp0
 have hs13:St w0 (ah ip #[.int .i64 5,.int .i64 i,zP d 0,zP ub 0,.slice aq ll.length rc,.int .u8 0,.int .i64 0,.int .u64 (k:Nat),.int .u64 (lv:Nat),.int .i64 (ll.length:Nat),.int .i64 (en:Nat),.int .i64 0,.int .u64 0,.int .u64 0,.int .u64 0,.int .u64 0,.int .u64 0,.int .u64 0,.int .u64 0,.int .u64 0,.int .u64 0,.int .u64 0,.int .u64 0] 91::Sl aq rc 85 1 cM.cells ll::QB ll::RP r4 i j rgj::L) w11:=hs12
 refine Zn [(4,zP r4 0),(30,.slice aq ll.length rc),(31,.int .i64 (ll.length:Nat)),(32,.int .i64 (j:Nat))] ?_
 refine En (Ls (La (Lt (Ls (Dz ?_)))))
 refine Zi (((j:Nat):Int)<(ll.length:Nat)) (λh14'=>?_) (λh14'=>?_)
 ·have hk:j<ll.length:=za
  have hGj:xB j (ll.getD j qE).pl:=D3 hll hgd hk
  obtain⟨ab15,rfl⟩:=Sl.isSome (hs13.at_ 1 rfl) za
  refine Zk (Zt (Zs (Zb (Zs (?_)))))
  refine bj (Hx 1 ((j:Nat):Int) ((ll.length:Nat):Int) ab15 0 1 (Hg 2 (.gen [.slice ((ll.getD j qE).pa) ((ll.getD j qE).pl.length) ((ll.getD j qE).pc)]) [.cell ⟨ab15,0+(j*1),none⟩ (.slice ((ll.getD j qE).pa) ((ll.getD j qE).pl.length) ((ll.getD j qE).pc))] (aG (ag.cC (hs13.rows 1 rfl B3.size qE) (k:=j) zd (j:=0) zf zk) av) Hz)) ?_
  refine En (Lt (Ls (Lg [1,5,6] (Lu (Dz ?_)))))
  refine aF (f:=63) (args:=#[.slice ((ll.getD j qE).pa) (((ll.getD j qE).pl).length) ((ll.getD j qE).pc)]) Tryz.call63 (yV j ((ll.getD j qE).pl) hGj (λw h=>(B4 (h.at_ 2 rfl) hk).1) hs13) ?_
  rintro v21 w22 ⟨bd17,tg18,rfl,hgd19,hs20⟩
  refine Lo (Lu (Dz ?_))
  refine ar.alloc rfl rfl zk (z:=.agg (an.cells dm)) zk hs20 (cs:=an.cells dm) zk ?_
  intro b23 w24 hs25
  refine Lo (Dz ?_)
  refine Zv (b:=b23) (off:=0) (v:=.agg (an.cells (⟨2,((j:Nat)+1),aA j,bd17,tg18⟩:an))) (ti:=Tryz.t43) zk hs25 0 (cs':=an.cells (⟨2,((j:Nat)+1),aA j,bd17,tg18⟩:an)) ?_
  intro w26 hs27
  refine Lo (aL (Lt (Ls (Dz ?_))))
  refine bL [5] (du 4 0 0 121 (an.cells (⟨2,((j:Nat)+1),aA j,bd17,tg18⟩:an)) hs27 Hz) ?_
  have hs28:=hs27.pl 5
  refine aF Tryz.call64 (mN j bd17 tg18 i rgj hgd19.ok hgd19.may hgd19.q5 (dQ hs28 2 rfl).nn hgd19.right (λw h=>hTab w (h.drop 5)) (λw h=>h.rows 1 rfl mX.size _) hs28) ?_
  rintro v31 w32 ⟨rg29,rfl,hs30⟩
  refine Lo (aL (Lt (LF (Lk (Lm (Lt (Dz ?_)))))))
  refine bj (cH 0 ((j:Nat)+1) Hz) ?_
  have hs33:=(((((hs30.pl 0).pl 5).pl 5).pl 5).pl 5).pl 5
  have hs34:=hs33.dr 2
  exact aw.back ((j+1),some ⟨ab15,0,none⟩,rg29) [4,30,31,32] zk (by show ll.length-(j+1)<ll.length-j;omega) ⟨za,hs34⟩
 ·refine En (Lx (gv (gw (Lh (Lt (Ls (La (Lt (Le (Dz ?_))))))))))
  refine jE (v:=zP r4 0) (v':=.int .i64 0) ?_
  obtain rfl:j=ll.length:=za
  exact⟨r4,rgj,aq,rfl,hs13⟩
theorem lI {w0 w:World}{L:List aI}{ip:Nat}{d:Nat}{ub:Nat}{rc:Nat}{ra:Option Addr}(i:Int) (kf:Int) (hi:1<=i/\i<=3) (hs:St w0 (ah ip #[.int .i64 3,.int .i64 i,zP d 0,zP ub 0,.slice ra (([]:List cM).length) rc,.int .u8 kf,.int .i64 0,.int .u64 0,.int .u64 0,.int .i64 0,.int .i64 40,.int .i64 0,.int .u64 0,.int .u64 0,.int .u64 0,.int .u64 0,.int .u64 0,.int .u64 0,.int .u64 0,.int .u64 0,.int .u64 0,.int .u64 0,.int .u64 0] 91::Sl ra rc 85 1 cM.cells ([]:List cM)::L) w):Calls Tryz.prog 36 #[zP ip 0,.int .i64 (([]:List cM).length:Nat)] w (aZ λrv w'=>∃ (r:Nat) (rg2:rR),rv=.tuple #[zP r 0,.int .i64 0]/\St w0 (ah ip #[.int .i64 3,.int .i64 i,zP d 0,zP ub 0,.slice ra (([]:List cM).length) rc,.int .u8 kf,.int .i64 0,.int .u64 0,.int .u64 0,.int .i64 0,.int .i64 40,.int .i64 0,.int .u64 0,.int .u64 0,.int .u64 0,.int .u64 0,.int .u64 0,.int .u64 0,.int .u64 0,.int .u64 0,.int .u64 0,.int .u64 0,.int .u64 0] 91::Sl ra rc 85 1 cM.cells ([]:List cM)::RQ r i rg2::L) w'):=by
 refine bp Tryz.func36 Tryz.ntmps36 ?_
 refine En (Ls (La (Lt (Ls (Dz ?_)))))
 refine aE.aV [0,1,3,7,0,16,48,112,255,511,1023,1023,2047,8191] (.rd 0 (.rd 1 (.rd 2 (.rd 3 (.rd 4 (.rd 5 (.rd 6 (.rd 7 (.ef 8 (.rd 9 (.rd 10 (.rd 11 (.rd 12 (.rd 13 .done)))))))))))))) zk zk ai zk hs ?_
 intro w1 hs2 hw3
 refine Zj (Hl 3 0 0 hs2 (Hl 7 0 1 hs2 Hz)) ?_
 refine aF Tryz.call16 (kC i hi hs2) ?_
 rintro v7 w8 ⟨r4,rg5,rfl,hs6⟩
 refine Lo (aL (Lt (Ls (Ls (La (Lt (LF (Lk (Lt (Ls (Ls (Lg [] (Dz ?_)))))))))))))
 have hcap9:=Sl.cap (hs6.at_ 2 rfl)
 refine gY (Hl 3 1 4 hs6 (Hg 5 (.cI (.slice ra ((([]:List cM).take (([]:List cM).length)).length) rc) (.sub 0 (([]:List cM).length))) [.prop (((([]:List cM).length:Nat):Int)=(((([]:List cM).length):Nat):Int)),.prop (((none:Option Operand)=none->(0:Nat)=0)/\(some (Operand.tmp 29)=none->((([]:List cM).length):Nat)=([]:List cM).length)/\(0:Nat)<=(([]:List cM).length)/\((([]:List cM).length):Nat)<=rc),.prop (Value.slice (if rc=0 then ra else (ra:Option Addr).map (λa=>a.add (0*1))) ((([]:List cM).length)-0) (rc-0)=Value.slice ra ((([]:List cM).take (([]:List cM).length)).length) rc)] (aB za (aB ⟨(by first|(intro _;rfl)|(intro hc;cases hc)),(by first|(intro _;rfl)|(intro hc;cases hc)),za,za⟩ (aB (uE zA) av))) Hz)) ?_
 refine Zt (Zb (?_))
 refine aE.dJ 1 ?_
 refine En (Ls (La (Lt (Ls (Dz ?_)))))
 refine Zi ((0:Int)<((([]:List cM).take (([]:List cM).length)).length:Nat)) (λh10'=>?_) (λh10'=>?_)
 ·exfalso;have hz:=(decide_eq_true h10');first|omega|(simp at hz;done)
 ·refine En (Lx (gv (gw (Lh (Lt (Ls (La (Lt (Le (Dz ?_))))))))))
  refine jE (v:=zP r4 0) (v':=.int .i64 0) ?_
  have hs11:=((hs6.pl 0).pl 2).pl 2
  exact⟨r4,rg5,rfl,hs11⟩
def gn (i:Int) (k:Nat):Int:=if i=2\/k=0 then 1 else 6
theorem D4 {i:Int}{k:Nat}(hi:1<=i) (h:((k:Nat):Int)=(aA k).toList.getD (Int.toNat (i-1)) 0):gn i k=1:=by
 rw [dL] at h
 refine if_pos ?_
 split at h<;>omega
theorem Cz {i:Int}{k:Nat}(hi:1<=i) (h:¬ ((k:Nat):Int)=(aA k).toList.getD (Int.toNat (i-1)) 0):gn i k=6:=by
 rw [dL] at h
 refine if_neg ?_
 split at h<;>omega
theorem qH {i:Int}{k:Nat}(hi:1<=i) (h:¬ ((k:Nat):Int)=(aA k).toList.getD (Int.toNat (i-1)) 0):i≠2/\0<k:=by
 rw [dL] at h
 split at h<;>omega
theorem Bj (l:List Int):∃ s,dw (2::l,false)=(2,s):=⟨(l,false),gP zf⟩
theorem Df {i n:Int}{b:List Int}{t:aO}(hb:∃ l,b=2::l) (hi:i≠2):ofM i n b t=(dm,5):=by
 obtain⟨l,rfl⟩:=hb
 obtain⟨s,hs⟩:=Bj l
 exact rk hs rfl (.inr λe=>hi e.symm)
theorem qI (i:Int) (n:Nat) (b:List Int):∀ z∈(eO i n b).toList,0<=z/\z<256:=by
 unfold eO
 split
 ·exact ep
 ·exact oF _ _ _
theorem ua {w0 w:World}{L:List aI}{ad:Option Addr}{cb:Nat}(i:Int) (n:Int) (b:List Int) (t:aO) (hpos:0<b.length) (hbl:b.length<=100000) (hbb:∀ z∈b,0<=z/\z<256) (hn:0<=n/\n<=18446744073709551615) (ht:∀ z∈t.toList,0<=z/\z<256) (hb2:∃ l,b=2::l) (hi2:i≠2) (hr:∀ w,St w0 L w->ag w ad b.length 1 (λk=>af (b.getD k 0))) (hs:St w0 L w):Calls Tryz.prog 66 #[.int .i64 i,.int .u64 n,.slice ad b.length cb,.agg (aO.cells t)] w (aZ λrv w'=>∃ (mm2:an),rv=.tuple #[.agg (an.cells mm2),.int .i64 5]/\St w0 L w'):=by
 refine Calls.ret (wV i n b t hpos hbl hbb hn ht hr hs) ?_
 rintro v w2 ⟨mm,ee,rfl,he,-,h⟩
 rw [Df hb2 hi2] at he
 obtain rfl:(5:Int)=ee:=congrArg Prod.snd he
 exact⟨mm,rfl,St.tail h⟩
theorem rW {w0 w:World}{L:List aI}{ip:Nat}{d:Nat}{ub:Nat}{rc:Nat}{r:Nat}{cb:Nat}{bc:Nat}{lv:Nat}{mn:Nat}{en:Nat}{ra:Option Addr}{ab:Option Addr}(i:Int) (k:Nat) (bo:List Int) (rg:rR) (hi:1<=i/\i<=5) (hk:k<=20) (hn0:k=0->bo=[]) (hbl:bo.length<=1024) (hbb:∀ z∈bo,0<=z/\z<256) (hb2:0<k->∃ l,bo=2::l) (hTab:∀ w,St w0 L w->cQ w) (hs:St w0 (ah ip #[.int .i64 5,.int .i64 i,zP d 0,zP ub 0,.slice ra mn rc,.int .u8 0,.int .i64 0,.int .u64 (k:Nat),.int .u64 (lv:Nat),.int .i64 (mn:Nat),.int .i64 (en:Nat),.int .i64 0,.int .u64 0,.int .u64 0,.int .u64 0,.int .u64 0,.int .u64 0,.int .u64 0,.int .u64 0,.int .u64 0,.int .u64 0,.int .u64 0,.int .u64 0] 91::RP r i k rg::ah ub #[zP cb 0,.int .i64 i,.int .u64 (k:Nat),.slice ab bo.length bc] 126::Sl ab bc 5 1 af bo::L) w):Calls Tryz.prog 37 #[zP ip 0,zP r 0] w (aZ λrv w'=>rv=.tuple #[.int .u8 (gn i k),.agg (aD.cells (aA k))]/\St w0 (ah ip #[.int .i64 5,.int .i64 i,zP d 0,zP ub 0,.slice ra mn rc,.int .u8 0,.int .i64 0,.int .u64 (k:Nat),.int .u64 (lv:Nat),.int .i64 (mn:Nat),.int .i64 (en:Nat),.int .i64 0,.int .u64 0,.int .u64 0,.int .u64 0,.int .u64 0,.int .u64 0,.int .u64 0,.int .u64 0,.int .u64 0,.int .u64 0,.int .u64 0,.int .u64 0] 91::RP r i k rg::ah ub #[zP cb 0,.int .i64 i,.int .u64 (k:Nat),.slice ab bo.length bc] 126::Sl ab bc 5 1 af bo::L) w'):=by
 have hgd0:0<=(aA k).toList.getD (Int.toNat (i-1)) 0/\(aA k).toList.getD (Int.toNat (i-1)) 0<=20:=by rw [dL];split<;>omega
 refine bp Tryz.func37 Tryz.ntmps37 ?_
 refine En (Ls (Lg [1] (Lu (Dz ?_))))
 refine ar.alloc rfl rfl zk (z:=.agg (aD.cells mw)) zk hs (cs:=aD.cells mw) zk ?_
 intro b1 w2 hs3
 refine Lo (Ld (Lt (Ls (Lg [1,2,3] (Lu (Dz ?_))))))
 have hs4:=hs3.pl 2
 refine aF Tryz.call27 (iQ i k rg zc hs4) ?_
 rintro v6 w7 ⟨rfl,hs5⟩
 refine Lo (Dz ?_)
 refine ar.alloc rfl rfl zk (z:=.agg (aD.cells mw)) zk hs5 (cs:=aD.cells mw) zk ?_
 intro b8 w9 hs10
 refine Lo (Dz ?_)
 refine Zv (b:=b8) (off:=0) (v:=.agg (aD.cells (aA k))) (ti:=Tryz.t41) zk hs10 0 (cs':=aD.cells (aA k)) ?_
 intro w11 hs12
 refine Lo (Ld (Lt (Ls (Dz ?_))))
 refine bL [4,9,12] (Hl 3 3 3 hs12 Hz) ?_
 have hs13:=(hs12.pl 5).pl 5
 refine aF Tryz.call65 (iN i k bo zc zc hn0 zc zc (λw h=>hTab w (h.drop 4)) hs13) ?_
 rintro v17 w18 ⟨ax14,cx15,rfl,hs16⟩
 refine Lo (Lu (Dz ?_))
 refine ar.alloc rfl rfl zk (z:=.agg (aO.cells aH)) zk hs16 (cs:=aO.cells aH) zk ?_
 intro b19 w20 hs21
 refine Lo (Lu (Dz ?_))
 refine Zv (b:=b19) (off:=0) (v:=.agg (aO.cells (eO i k bo))) (ti:=Tryz.t34) zk hs21 0 (cs':=aO.cells (eO i k bo)) ?_
 intro w22 hs23
 refine Lo (Ld (Lt (Ls (Ls (La (Lt (Lb (Ls (Dz ?_)))))))))
 refine bj (Hl 3 7 1 hs23 (cH 4 (i-1) (Hx 5 ((i-1):Int) (11:Int) b8 0 1 (Hg 6 (.gen [.int .u64 ((aA k).toList.getD (Int.toNat (i-1)) 0)]) [.cell ⟨b8,0+((Int.toNat (i-1))*1),none⟩ (.int .u64 ((aA k).toList.getD (Int.toNat (i-1)) 0))] (aG (hs23.cell 4 rfl (aD.mW (off:=0) (d:=aA k) zk za)) av) Hz)))) ?_
 refine Zt (?_)
 refine cS (t:=((k:Nat):Int) == ((aA k).toList.getD (Int.toNat (i-1)) 0)) (λh24=>?_) (λh24=>?_)
 ·have h24':((k:Nat):Int)=((aA k).toList.getD (Int.toNat (i-1)) 0):=dt h24
  refine Zs (?_)
  refine aE.aV [0,0,3] (.rd 0 (.rd 1 (.ef 2 .done))) zk zk ai zk hs23 ?_
  intro w25 hs26 hw27
  refine Zj (du 0 4 0 11 (aD.cells (aA k)) hs26 Hz) ?_
  refine Zv (b:=b1) (off:=0) (v:=.agg (aD.cells (aA k))) (ti:=Tryz.t41) zk hs26 6 (cs':=aD.cells (aA k)) ?_
  intro w28 hs29
  refine Lo (Ld (Lt (Le (Ll (Ly (Dz ?_))))))
  refine aw.done (.inl rfl) (v:=.tuple #[.int .u8 1,.agg (aD.cells (aA k))]) (λa hf=>gF rfl (RV.tmp zk) (RV.agg zk (ti:=Tryz.t41) zk zk (vs:=aD.cells (aA k)) zk (hs29.cells 6 0 rfl zk)) a hf) ?_
  have hs30:=(((((((hs29.pl 2).pl 2).pl 5).pl 7).pl 7).pl 7).pl 7).pl 7
  have hs31:=hs30.dr 4
  exact⟨(by rw [D4 hi.1 (by simpa using h24)]),hs31⟩
 ·have h24':¬ (((k:Nat):Int)=((aA k).toList.getD (Int.toNat (i-1)) 0)):=dH h24
  refine Zs (?_)
  refine bj (Hl 3 7 1 hs23 (cH 4 (i-1) (Hx 5 ((i-1):Int) (11:Int) b8 0 1 (Hg 6 (.gen [.int .u64 ((aA k).toList.getD (Int.toNat (i-1)) 0)]) [.cell ⟨b8,0+((Int.toNat (i-1))*1),none⟩ (.int .u64 ((aA k).toList.getD (Int.toNat (i-1)) 0))] (aG (hs23.cell 4 rfl (aD.mW (off:=0) (d:=aA k) zk za)) av) (qU 7 (((aA k).toList.getD (Int.toNat (i-1)) 0)+1) Hz))))) ?_
  refine Zt (?_)
  refine cS (t:=((k:Nat):Int) == (((aA k).toList.getD (Int.toNat (i-1)) 0)+1)) (λh32=>?_) (λh32=>?_)
  ·have h32':((k:Nat):Int)=(((aA k).toList.getD (Int.toNat (i-1)) 0)+1):=dt h32
   refine Zs (?_)
   refine aE.join (T:=Nat×an) (E:=λjx=>[(1,zP r 0),(4,.int .u8 0),(5,zP b1 0),(6,zP b8 0),(10,zP jx.1 0),(11,.int .i64 5)]) (F:=λjx w=>St w0 (ah jx.1 (an.cells jx.2) 43::ah b19 (aO.cells (eO i k bo)) 34::ah ub #[zP cb 0,.int .i64 i,.int .u64 (k:Nat),.slice ab bo.length bc] 126::Sl ab bc 5 1 af bo::Sl ax14 cx15 5 1 af bo::ah b8 (aD.cells (aA k)) 41::RP r i k rg::ah b1 (aD.cells mw) 41::ah ip #[.int .i64 5,.int .i64 i,zP d 0,zP ub 0,.slice ra mn rc,.int .u8 0,.int .i64 0,.int .u64 (k:Nat),.int .u64 (lv:Nat),.int .i64 (mn:Nat),.int .i64 (en:Nat),.int .i64 0,.int .u64 0,.int .u64 0,.int .u64 0,.int .u64 0,.int .u64 0,.int .u64 0,.int .u64 0,.int .u64 0,.int .u64 0,.int .u64 0,.int .u64 0] 91::L) w) ?_ ?_
   ·refine aE.aV [0,1,3,7,0,0,0,127,255,511,511,0,3071,8191] (.rd 0 (.rd 1 (.rd 2 (.rd 3 (.rd 4 (.rd 5 (.rd 6 (.alt (.ef 7 (.rd 8 (.rd 9 (.rd 10 (.ef 11 (.ef 12 (.rd 13 .done))))))) (.ef 11 (.ef 7 (.rd 8 (.rd 9 (.rd 10 (.ef 12 (.rd 13 .done))))))))))))))) zk zk ai zk hs23 ?_
    intro w33 hs34 hw35
    refine Zp 0 7 [(3,.gen [.int .i64 i]),(6,.agg (aO.cells (eO i k bo)))] [(3,[.cell ⟨ip,1,none⟩ (.int .i64 i)]),(6,[.prop (Array.size (aO.cells (eO i k bo))=32),.cells ⟨b19,0,none⟩ (aO.cells (eO i k bo))])] (ak (aG (hs34.cell 7 rfl zk) av) (ak (aB zk (dq (hs34.cells 0 0 rfl zk) av)) cW)) ?_
    refine ar.alt ?_ ?_
    ·refine aF (f:=66) (args:=#[.int .i64 i,.int .u64 (k:Nat),.slice ax14 bo.length cx15,.agg (aO.cells (eO i k bo))]) Tryz.call66 (ua i (k:Nat) bo (eO i k bo) (by obtain⟨l,e⟩:=hb2 (qH hi.1 (by simpa using h24)).2;rw [e];exact Nat.succ_pos _) zc hbb zc (qI _ _ _) (hb2 (qH hi.1 (by simpa using h24)).2) (qH hi.1 (by simpa using h24)).1 (λw h=>h.rows 3 rfl aj.size _) hs34) ?_
     rintro v38 w39 ⟨mm36,rfl,hs37⟩
     refine Lo (Dz ?_)
     refine Zr 8 3 [] ?_
     refine ar.alloc rfl rfl zk (z:=.agg (an.cells dm)) zk hs37 (cs:=an.cells dm) zk ?_
     intro b40 w41 hs42
     refine⟨bw (n:=[.prop (Array.size (aO.cells (eO i k bo))=32),.cells ⟨b19,0,none⟩ (aO.cells (eO i k bo)),.cell ⟨ip,1,none⟩ (.int .i64 i)]) zk (aB zk (dq (hs42.cells 1 0 rfl zk) (aG (hs42.cell 8 rfl zk) av))),?_⟩
     refine Zv (b:=b40) (off:=0) (v:=.agg (an.cells mm36)) (ti:=Tryz.t43) zk hs42 0 (cs':=an.cells mm36) ?_
     intro w43 hs44
     refine Lo (Dz ?_)
     refine Zr 13 1 [] ?_
     refine Zd (?_)
     refine aw.pick [1,4,5,6,10,11] (S':=[(1,zP r 0),(4,.int .u8 0),(5,zP b1 0),(6,zP b8 0),(10,zP b40 0),(11,.int .i64 5)]) zk ?_
     exact aw.bD (b40,mm36) rfl hs44
    refine ar.alloc rfl rfl zk (z:=.agg (an.cells dm)) zk hs34 (cs:=an.cells dm) zk ?_
    intro b45 w46 hs47
    refine⟨bw (n:=[.prop (Array.size (aO.cells (eO i k bo))=32),.cells ⟨b19,0,none⟩ (aO.cells (eO i k bo)),.cell ⟨ip,1,none⟩ (.int .i64 i)]) zk (aB zk (dq (hs47.cells 1 0 rfl zk) (aG (hs47.cell 8 rfl zk) av))),?_⟩
    refine aF (f:=66) (args:=#[.int .i64 i,.int .u64 (k:Nat),.slice ax14 bo.length cx15,.agg (aO.cells (eO i k bo))]) Tryz.call66 (ua i (k:Nat) bo (eO i k bo) (by obtain⟨l,e⟩:=hb2 (qH hi.1 (by simpa using h24)).2;rw [e];exact Nat.succ_pos _) zc hbb zc (qI _ _ _) (hb2 (qH hi.1 (by simpa using h24)).2) (qH hi.1 (by simpa using h24)).1 (λw h=>h.rows 4 rfl aj.size _) hs47) ?_
    rintro v50 w51 ⟨mm48,rfl,hs49⟩
    refine Lo (Dz ?_)
    refine Zr 8 3 [] ?_
    refine Zv (b:=b45) (off:=0) (v:=.agg (an.cells mm48)) (ti:=Tryz.t43) zk hs49 0 (cs':=an.cells mm48) ?_
    intro w52 hs53
    refine Lo (Dz ?_)
    refine Zr 13 1 [] ?_
    refine Zd (?_)
    refine aw.pick [1,4,5,6,10,11] (S':=[(1,zP r 0),(4,.int .u8 0),(5,zP b1 0),(6,zP b8 0),(10,zP b45 0),(11,.int .i64 5)]) zk ?_
    exact aw.bD (b45,mm48) rfl hs53
   rintro⟨b54,mm55⟩ w56 hs57
   have hs58:St w0 (ah b54 (an.cells mm55) 43::ah b19 (aO.cells (eO i k bo)) 34::ah ub #[zP cb 0,.int .i64 i,.int .u64 (k:Nat),.slice ab bo.length bc] 126::Sl ab bc 5 1 af bo::Sl ax14 cx15 5 1 af bo::ah b8 (aD.cells (aA k)) 41::RP r i k rg::ah b1 (aD.cells mw) 41::ah ip #[.int .i64 5,.int .i64 i,zP d 0,zP ub 0,.slice ra mn rc,.int .u8 0,.int .i64 0,.int .u64 (k:Nat),.int .u64 (lv:Nat),.int .i64 (mn:Nat),.int .i64 (en:Nat),.int .i64 0,.int .u64 0,.int .u64 0,.int .u64 0,.int .u64 0,.int .u64 0,.int .u64 0,.int .u64 0,.int .u64 0,.int .u64 0,.int .u64 0,.int .u64 0] 91::L) w56:=hs57
   refine aw.cq (S':=[(1,zP r 0),(4,.int .u8 0),(5,zP b1 0),(6,zP b8 0),(10,zP b54 0),(11,.int .i64 5)]) rfl ?_
   refine En (Lt (Ls (Lg [5] (Lu (Dz ?_)))))
   refine ar.skip rfl zk cK ?_
   refine En (aL (Lt (LF (Lk (Lm (Lt (Ls (Dz ?_))))))))
   refine aE.aV [0,0,3] (.rd 0 (.rd 1 (.ef 2 .done))) zk zk ai zk hs58 ?_
   intro w59 hs60 hw61
   refine Zj (du 0 5 0 11 (aD.cells (aA k)) hs60 Hz) ?_
   refine Zv (b:=b1) (off:=0) (v:=.agg (aD.cells (aA k))) (ti:=Tryz.t41) zk hs60 7 (cs':=aD.cells (aA k)) ?_
   intro w62 hs63
   refine Lo (Ld (Lt (Le (Dz ?_))))
   refine aw.done (.inl rfl) (v:=.tuple #[.int .u8 6,.agg (aD.cells (aA k))]) (λa hf=>gF rfl (RV.tmp zk) (RV.agg zk (ti:=Tryz.t41) zk zk (vs:=aD.cells (aA k)) zk (hs63.cells 7 0 rfl zk)) a hf) ?_
   have hs64:=((((((((hs63.pl 3).pl 3).pl 6).pl 8).pl 8).pl 8).pl 8).pl 8).pl 8
   have hs65:=hs64.dr 5
   exact⟨(by rw [Cz hi.1 (by simpa using h24)]),hs65⟩
  ·have h32':¬ (((k:Nat):Int)=(((aA k).toList.getD (Int.toNat (i-1)) 0)+1)):=dH h32
   refine Zk (Zm (Zt (Zs (?_))))
   refine aE.aV [0,0,3] (.rd 0 (.rd 1 (.ef 2 .done))) zk zk ai zk hs23 ?_
   intro w66 hs67 hw68
   refine Zj (du 0 4 0 11 (aD.cells (aA k)) hs67 Hz) ?_
   refine Zv (b:=b1) (off:=0) (v:=.agg (aD.cells (aA k))) (ti:=Tryz.t41) zk hs67 6 (cs':=aD.cells (aA k)) ?_
   intro w69 hs70
   refine Lo (Ld (Lt (Le (Dz ?_))))
   refine aw.done (.inl rfl) (v:=.tuple #[.int .u8 6,.agg (aD.cells (aA k))]) (λa hf=>gF rfl (RV.tmp zk) (RV.agg zk (ti:=Tryz.t41) zk zk (vs:=aD.cells (aA k)) zk (hs70.cells 6 0 rfl zk)) a hf) ?_
   have hs71:=(((((((hs70.pl 2).pl 2).pl 5).pl 7).pl 7).pl 7).pl 7).pl 7
   have hs72:=hs71.dr 4
   exact⟨(by rw [Cz hi.1 (by simpa using h24)]),hs72⟩
theorem lJ {w0 w:World}{L:List aI}{ip:Nat}{d:Nat}{ub:Nat}{rc:Nat}{r:Nat}{cb:Nat}{bc:Nat}{ra:Option Addr}{ab:Option Addr}(i:Int) (kf:Int) (rg:rR) (hi:1<=i/\i<=3) (hTab:∀ w,St w0 L w->cQ w) (hs:St w0 (ah ip #[.int .i64 3,.int .i64 i,zP d 0,zP ub 0,.slice ra (([]:List cM).length) rc,.int .u8 kf,.int .i64 0,.int .u64 0,.int .u64 0,.int .i64 0,.int .i64 40,.int .i64 0,.int .u64 0,.int .u64 0,.int .u64 0,.int .u64 0,.int .u64 0,.int .u64 0,.int .u64 0,.int .u64 0,.int .u64 0,.int .u64 0,.int .u64 0] 91::Sl ra rc 85 1 cM.cells ([]:List cM)::RQ r i rg::ah ub #[zP cb 0,.int .i64 i,.int .u64 0,.slice ab (([]:List Int).length) bc] 126::Sl ab bc 5 1 af ([]:List Int)::L) w):Calls Tryz.prog 37 #[zP ip 0,zP r 0] w (aZ λrv w'=>rv=.tuple #[.int .u8 1,.agg (aD.cells (aA 0))]/\St w0 (ah ip #[.int .i64 3,.int .i64 i,zP d 0,zP ub 0,.slice ra (([]:List cM).length) rc,.int .u8 kf,.int .i64 0,.int .u64 0,.int .u64 0,.int .i64 0,.int .i64 40,.int .i64 0,.int .u64 0,.int .u64 0,.int .u64 0,.int .u64 0,.int .u64 0,.int .u64 0,.int .u64 0,.int .u64 0,.int .u64 0,.int .u64 0,.int .u64 0] 91::Sl ra rc 85 1 cM.cells ([]:List cM)::RQ r i rg::ah ub #[zP cb 0,.int .i64 i,.int .u64 0,.slice ab (([]:List Int).length) bc] 126::Sl ab bc 5 1 af ([]:List Int)::L) w'):=by
 refine bp Tryz.func37 Tryz.ntmps37 ?_
 refine En (Ls (Lg [1] (Lu (Dz ?_))))
 refine ar.alloc rfl rfl zk (z:=.agg (aD.cells mw)) zk hs (cs:=aD.cells mw) zk ?_
 intro b1 w2 hs3
 refine Lo (Ld (Lt (Ls (Lg [1,2,3] (Lu (Dz ?_))))))
 have hs4:=hs3.pl 3
 refine aF Tryz.call27 (rS i rg hs4) ?_
 rintro v6 w7 ⟨rfl,hs5⟩
 refine Lo (Dz ?_)
 refine ar.alloc rfl rfl zk (z:=.agg (aD.cells mw)) zk hs5 (cs:=aD.cells mw) zk ?_
 intro b8 w9 hs10
 refine Lo (Dz ?_)
 refine Zv (b:=b8) (off:=0) (v:=.agg (aD.cells (aA 0))) (ti:=Tryz.t41) zk hs10 0 (cs':=aD.cells (aA 0)) ?_
 intro w11 hs12
 refine Lo (Ld (Lt (Ls (Dz ?_))))
 refine bL [4,9,12] (Hl 3 3 3 hs12 Hz) ?_
 have hs13:=(hs12.pl 6).pl 6
 refine aF Tryz.call65 (iN i 0 ([]:List Int) za za (λ_=>rfl) za zf (λw h=>hTab w (h.drop 5)) hs13) ?_
 rintro v17 w18 ⟨ax14,cx15,rfl,hs16⟩
 refine Lo (Lu (Dz ?_))
 refine ar.alloc rfl rfl zk (z:=.agg (aO.cells aH)) zk hs16 (cs:=aO.cells aH) zk ?_
 intro b19 w20 hs21
 refine Lo (Lu (Dz ?_))
 refine Zv (b:=b19) (off:=0) (v:=.agg (aO.cells (eO i 0 ([]:List Int)))) (ti:=Tryz.t34) zk hs21 0 (cs':=aO.cells (eO i 0 ([]:List Int))) ?_
 intro w22 hs23
 refine Lo (Ld (Lt (Ls (Ls (La (Lt (Lb (Ls (Dz ?_)))))))))
 refine bj (Hl 3 7 1 hs23 (cH 4 (i-1) (Hx 5 ((i-1):Int) (11:Int) b8 0 1 (Hg 6 (.gen [.int .u64 ((aA 0).toList.getD (Int.toNat (i-1)) 0)]) [.cell ⟨b8,0+((Int.toNat (i-1))*1),none⟩ (.int .u64 ((aA 0).toList.getD (Int.toNat (i-1)) 0))] (aG (hs23.cell 4 rfl (aD.mW (off:=0) (d:=aA 0) zk za)) av) Hz)))) ?_
 refine Zt (?_)
 refine cS (t:=(0:Int) == ((aA 0).toList.getD (Int.toNat (i-1)) 0)) (λh24=>?_) (λh24=>?_)
 ·have h24':(0:Int)=((aA 0).toList.getD (Int.toNat (i-1)) 0):=dt h24
  refine Zs (?_)
  refine aE.aV [0,0,3] (.rd 0 (.rd 1 (.ef 2 .done))) zk zk ai zk hs23 ?_
  intro w25 hs26 hw27
  refine Zj (du 0 4 0 11 (aD.cells (aA 0)) hs26 Hz) ?_
  refine Zv (b:=b1) (off:=0) (v:=.agg (aD.cells (aA 0))) (ti:=Tryz.t41) zk hs26 6 (cs':=aD.cells (aA 0)) ?_
  intro w28 hs29
  refine Lo (Ld (Lt (Le (Ll (Ly (Dz ?_))))))
  refine aw.done (.inl rfl) (v:=.tuple #[.int .u8 1,.agg (aD.cells (aA 0))]) (λa hf=>gF rfl (RV.tmp zk) (RV.agg zk (ti:=Tryz.t41) zk zk (vs:=aD.cells (aA 0)) zk (hs29.cells 6 0 rfl zk)) a hf) ?_
  have hs30:=((((((((hs29.pl 2).pl 2).pl 5).pl 8).pl 8).pl 8).pl 8).pl 8).pl 8
  have hs31:=hs30.dr 4
  exact⟨rfl,hs31⟩
 ·have h24':¬ ((0:Int)=((aA 0).toList.getD (Int.toNat (i-1)) 0)):=dH h24
  exfalso;have hz:=h24;rw [dL] at hz;simp at hz
theorem ud {w0 w:World}{L:List aI}{ip:Nat}{d:Nat}{ub:Nat}{rc:Nat}{cb:Nat}{bc:Nat}{ra:Option Addr}{ab:Option Addr}(i:Int) (k:Nat) (lv:Nat) (en:Nat) (ll:List cM) (rs:List (List Int)) (bo:List Int) (hi:1<=i/\i<=5) (hll:ll.map cM.pl=rs) (hgd:pH rs) (hkl:ll.length=k) (hk:k<=20) (hn0:k=0->bo=[]) (hbl:bo.length<=1024) (hbb:∀ z∈bo,0<=z/\z<256) (hb2:0<k->∃ l,bo=2::l) (hTab:∀ w,St w0 L w->cQ w) (hs:St w0 (ah ip #[.int .i64 5,.int .i64 i,zP d 0,zP ub 0,.slice ra ll.length rc,.int .u8 0,.int .i64 0,.int .u64 (k:Nat),.int .u64 (lv:Nat),.int .i64 (ll.length:Nat),.int .i64 (en:Nat),.int .i64 0,.int .u64 0,.int .u64 0,.int .u64 0,.int .u64 0,.int .u64 0,.int .u64 0,.int .u64 0,.int .u64 0,.int .u64 0,.int .u64 0,.int .u64 0] 91::Sl ra rc 85 1 cM.cells ll::QB ll::ah ub #[zP cb 0,.int .i64 i,.int .u64 (k:Nat),.slice ab bo.length bc] 126::Sl ab bc 5 1 af bo::L) w):Calls Tryz.prog 83 #[zP ip 0] w (aZ λrv w'=>∃ (ra2:Option Addr),rv=.bool true/\St w0 (ah ip #[.int .i64 5,.int .i64 i,zP d 0,zP ub 0,.slice ra2 ll.length rc,.int .u8 (gn i k),.int .i64 0,.int .u64 (k:Nat),.int .u64 (lv:Nat),.int .i64 (ll.length:Nat),.int .i64 (en:Nat),.int .i64 0,.int .u64 ((aA k)[0]),.int .u64 ((aA k)[1]),.int .u64 ((aA k)[2]),.int .u64 ((aA k)[3]),.int .u64 ((aA k)[4]),.int .u64 ((aA k)[5]),.int .u64 ((aA k)[6]),.int .u64 ((aA k)[7]),.int .u64 ((aA k)[8]),.int .u64 ((aA k)[9]),.int .u64 ((aA k)[10])] 91::L) w'):=by
 subst hkl
 refine bp Tryz.func83 Tryz.ntmps83 ?_
 refine En (Ls (La (Lt (Ls (Dz ?_)))))
 refine bL [6] (Hl 4 0 4 hs Hz) ?_
 refine aF Tryz.call36 (rV i ll.length lv en ll rs hi hll hgd za (λw h=>hTab w (h.drop 2)) hs) ?_
 rintro v5 w6 ⟨r1,rg2,ra3,rfl,hs4⟩
 refine Lo (aL (Lt (Ls (Ls (Lg [5] (Lu (Dz ?_)))))))
 refine Zv (b:=ip) (off:=11) (v:=.int .i64 0) (ti:=Tryz.t3) zk hs4 0 (cs':=#[.int .i64 5,.int .i64 i,zP d 0,zP ub 0,.slice ra3 ll.length rc,.int .u8 0,.int .i64 0,.int .u64 (ll.length:Nat),.int .u64 (lv:Nat),.int .i64 (ll.length:Nat),.int .i64 (en:Nat),.int .i64 0,.int .u64 0,.int .u64 0,.int .u64 0,.int .u64 0,.int .u64 0,.int .u64 0,.int .u64 0,.int .u64 0,.int .u64 0,.int .u64 0,.int .u64 0]) ?_
 intro w7 hs8
 refine Lo (Ld (Lt (Ls (La (Lt (LF (Lk (Lt (Ls (Lg [4,11,15] (Lu (Dz ?_))))))))))))
 have hs9:=(((hs8.pl 5).pl 5).pl 5).pl 3
 refine aF Tryz.call37 (rW i ll.length bo rg2 hi za hn0 za hbb hb2 (λw h=>hTab w (h.drop 2)) hs9) ?_
 rintro v11 w12 ⟨rfl,hs10⟩
 refine Lo (Lu (Dz ?_))
 refine Zv (b:=ip) (off:=5) (v:=.int .u8 (gn i ll.length)) (ti:=Tryz.t47) zk hs10 0 (cs':=#[.int .i64 5,.int .i64 i,zP d 0,zP ub 0,.slice ra3 ll.length rc,.int .u8 (gn i ll.length),.int .i64 0,.int .u64 (ll.length:Nat),.int .u64 (lv:Nat),.int .i64 (ll.length:Nat),.int .i64 (en:Nat),.int .i64 0,.int .u64 0,.int .u64 0,.int .u64 0,.int .u64 0,.int .u64 0,.int .u64 0,.int .u64 0,.int .u64 0,.int .u64 0,.int .u64 0,.int .u64 0]) ?_
 intro w13 hs14
 refine Lo (Lu (Dz ?_))
 refine Zv (b:=ip) (off:=12) (v:=.agg (aD.cells (aA ll.length))) (ti:=Tryz.t41) zk hs14 0 (cs':=#[.int .i64 5,.int .i64 i,zP d 0,zP ub 0,.slice ra3 ll.length rc,.int .u8 (gn i ll.length),.int .i64 0,.int .u64 (ll.length:Nat),.int .u64 (lv:Nat),.int .i64 (ll.length:Nat),.int .i64 (en:Nat),.int .i64 0,.int .u64 ((aA ll.length)[0]),.int .u64 ((aA ll.length)[1]),.int .u64 ((aA ll.length)[2]),.int .u64 ((aA ll.length)[3]),.int .u64 ((aA ll.length)[4]),.int .u64 ((aA ll.length)[5]),.int .u64 ((aA ll.length)[6]),.int .u64 ((aA ll.length)[7]),.int .u64 ((aA ll.length)[8]),.int .u64 ((aA ll.length)[9]),.int .u64 ((aA ll.length)[10])]) ?_
 intro w15 hs16
 refine Lo (Ld (Lt (Ls (La (Lt (Le (Dz ?_)))))))
 refine bg (v:=.bool true) ?_
 have hs17:=(((((hs16.pl 0).pl 5).pl 5).pl 5).pl 5).pl 5
 have hs18:=hs17.dr 5
 exact⟨ra3,rfl,hs18⟩
theorem ue {w0 w:World}{L:List aI}{ip:Nat}{d:Nat}{ub:Nat}{rc:Nat}{cb:Nat}{bc:Nat}{ra:Option Addr}{ab:Option Addr}(i:Int) (hi:1<=i/\i<=3) (hTab:∀ w,St w0 L w->cQ w) (hs:St w0 (ah ip #[.int .i64 3,.int .i64 i,zP d 0,zP ub 0,.slice ra (([]:List cM).length) rc,.int .u8 0,.int .i64 0,.int .u64 0,.int .u64 0,.int .i64 0,.int .i64 40,.int .i64 0,.int .u64 0,.int .u64 0,.int .u64 0,.int .u64 0,.int .u64 0,.int .u64 0,.int .u64 0,.int .u64 0,.int .u64 0,.int .u64 0,.int .u64 0] 91::Sl ra rc 85 1 cM.cells ([]:List cM)::ah ub #[zP cb 0,.int .i64 i,.int .u64 0,.slice ab (([]:List Int).length) bc] 126::Sl ab bc 5 1 af ([]:List Int)::L) w):Calls Tryz.prog 83 #[zP ip 0] w (aZ λrv w'=>rv=.bool true/\St w0 (ah ip #[.int .i64 3,.int .i64 i,zP d 0,zP ub 0,.slice ra (([]:List cM).length) rc,.int .u8 1,.int .i64 0,.int .u64 0,.int .u64 0,.int .i64 0,.int .i64 40,.int .i64 0,.int .u64 0,.int .u64 0,.int .u64 0,.int .u64 0,.int .u64 0,.int .u64 0,.int .u64 0,.int .u64 0,.int .u64 0,.int .u64 0,.int .u64 0] 91::Sl ra rc 85 1 cM.cells ([]:List cM)::ah ub #[zP cb 0,.int .i64 i,.int .u64 0,.slice ab (([]:List Int).length) bc] 126::Sl ab bc 5 1 af ([]:List Int)::L) w'):=by
 refine bp Tryz.func83 Tryz.ntmps83 ?_
 refine En (Ls (La (Lt (Ls (Dz ?_)))))
 refine bL [6] (Hl 4 0 4 hs Hz) ?_
 refine aF Tryz.call36 (lI i 0 hi hs) ?_
 rintro v4 w5 ⟨r1,rg2,rfl,hs3⟩
 refine Lo (aL (Lt (Ls (Ls (Lg [5] (Lu (Dz ?_)))))))
 refine Zv (b:=ip) (off:=11) (v:=.int .i64 0) (ti:=Tryz.t3) zk hs3 0 (cs':=#[.int .i64 3,.int .i64 i,zP d 0,zP ub 0,.slice ra (([]:List cM).length) rc,.int .u8 0,.int .i64 0,.int .u64 0,.int .u64 0,.int .i64 0,.int .i64 40,.int .i64 0,.int .u64 0,.int .u64 0,.int .u64 0,.int .u64 0,.int .u64 0,.int .u64 0,.int .u64 0,.int .u64 0,.int .u64 0,.int .u64 0,.int .u64 0]) ?_
 intro w6 hs7
 refine Lo (Ld (Lt (Ls (La (Lt (LF (Lk (Lt (Ls (Lg [4,11,15] (Lu (Dz ?_))))))))))))
 refine aF Tryz.call37 (lJ i 0 rg2 hi (λw h=>hTab w (h.drop 0)) hs7) ?_
 rintro v9 w10 ⟨rfl,hs8⟩
 refine Lo (Lu (Dz ?_))
 refine Zv (b:=ip) (off:=5) (v:=.int .u8 1) (ti:=Tryz.t47) zk hs8 0 (cs':=#[.int .i64 3,.int .i64 i,zP d 0,zP ub 0,.slice ra (([]:List cM).length) rc,.int .u8 1,.int .i64 0,.int .u64 0,.int .u64 0,.int .i64 0,.int .i64 40,.int .i64 0,.int .u64 0,.int .u64 0,.int .u64 0,.int .u64 0,.int .u64 0,.int .u64 0,.int .u64 0,.int .u64 0,.int .u64 0,.int .u64 0,.int .u64 0]) ?_
 intro w11 hs12
 refine Lo (Lu (Dz ?_))
 refine Zv (b:=ip) (off:=12) (v:=.agg (aD.cells (aA 0))) (ti:=Tryz.t41) zk hs12 0 (cs':=#[.int .i64 3,.int .i64 i,zP d 0,zP ub 0,.slice ra (([]:List cM).length) rc,.int .u8 1,.int .i64 0,.int .u64 0,.int .u64 0,.int .i64 0,.int .i64 40,.int .i64 0,.int .u64 ((aA 0)[0]),.int .u64 ((aA 0)[1]),.int .u64 ((aA 0)[2]),.int .u64 ((aA 0)[3]),.int .u64 ((aA 0)[4]),.int .u64 ((aA 0)[5]),.int .u64 ((aA 0)[6]),.int .u64 ((aA 0)[7]),.int .u64 ((aA 0)[8]),.int .u64 ((aA 0)[9]),.int .u64 ((aA 0)[10])]) ?_
 intro w13 hs14
 refine Lo (Ld (Lt (Ls (La (Lt (Le (Dz ?_)))))))
 refine bg (v:=.bool true) ?_
 have hs15:St w0 (ah ip #[.int .i64 3,.int .i64 i,zP d 0,zP ub 0,.slice ra (([]:List cM).length) rc,.int .u8 1,.int .i64 0,.int .u64 0,.int .u64 0,.int .i64 0,.int .i64 40,.int .i64 0,.int .u64 0,.int .u64 0,.int .u64 0,.int .u64 0,.int .u64 0,.int .u64 0,.int .u64 0,.int .u64 0,.int .u64 0,.int .u64 0,.int .u64 0] 91::Sl ra rc 85 1 cM.cells ([]:List cM)::RQ r1 i rg2::ah ub #[zP cb 0,.int .i64 i,.int .u64 0,.slice ab (([]:List Int).length) bc] 126::Sl ab bc 5 1 af ([]:List Int)::L) w13:=hs14
 have hs16:=((((hs15.pl 4).pl 4).pl 3).pl 3).pl 4
 have hs17:=hs16.dr 1
 exact⟨rfl,hs17⟩
theorem wy {w0 w:World}{L:List aI}{d:Nat}{D:Nat->aC}{nk:Nat}{g:et}(i:Int) (k:Nat) (rs:List (List Int)) (wq:Nat) (c:Int) (bo:List Int) (hi:1<=i/\i<=5) (hd:oT D wq c bo k rs) (hTab:∀ w,St w0 L w->cQ w) (hs:St w0 (DK d D nk g::L) w):Calls Tryz.prog 35 #[.int .i64 5,.int .i64 i,zP d 0] w (aZ λrv w'=>∃ (ip:Nat) (ub:Nat) (ra:Option Addr) (rc:Nat),rv=.tuple #[zP ip 0,.int .i64 0]/\St w0 (ah ip #[.int .i64 5,.int .i64 i,zP d 0,zP ub 0,.slice ra k rc,.int .u8 (gn i k),.int .i64 0,.int .u64 (k:Nat),.int .u64 1,.int .i64 (k:Nat),.int .i64 (cG 40 rs:Nat),.int .i64 0,.int .u64 ((aA k)[0]),.int .u64 ((aA k)[1]),.int .u64 ((aA k)[2]),.int .u64 ((aA k)[3]),.int .u64 ((aA k)[4]),.int .u64 ((aA k)[5]),.int .u64 ((aA k)[6]),.int .u64 ((aA k)[7]),.int .u64 ((aA k)[8]),.int .u64 ((aA k)[9]),.int .u64 ((aA k)[10])] 91::DK d D nk g::L) w'):=by
 refine bp Tryz.func35 Tryz.ntmps35 ?_
 refine En (Ls (La (Lt (Ls (Ls (La (Lt (LF (Lk (Lt (Ls (Ls (Lg [2] (Lu (Dz ?_)))))))))))))))
 refine aF Tryz.call16 (kD i hi hs) ?_
 rintro v4 w5 ⟨r1,rg2,rfl,hs3⟩
 refine Lo (aL (Lt (Ls (La (Lt (LF (Lk (Lt (Ls (Ls (Lg [1] (Lu (Dz ?_)))))))))))))
 have hs6:=hs3.pl 1
 refine aF Tryz.call80 (hK hs6) ?_
 rintro v8 w9 ⟨rfl,hs7⟩
 refine Lo (aL (Lt (LF (Lk (Lt (Ls (Lg [4] (Lu (Dz ?_)))))))))
 refine ar.box rfl rfl zk (v:=.agg #[.int .i64 5,.int .i64 i,zP d 0,.pointer none,.slice none 0 0,.int .u8 0,.int .i64 0,.int .u64 0,.int .u64 0,.int .i64 0,.int .i64 0,.int .i64 0,.int .u64 0,.int .u64 0,.int .u64 0,.int .u64 0,.int .u64 0,.int .u64 0,.int .u64 0,.int .u64 0,.int .u64 0,.int .u64 0,.int .u64 0]) zk hs7 (cs:=#[.int .i64 5,.int .i64 i,zP d 0,.pointer none,.slice none 0 0,.int .u8 0,.int .i64 0,.int .u64 0,.int .u64 0,.int .i64 0,.int .i64 0,.int .i64 0,.int .u64 0,.int .u64 0,.int .u64 0,.int .u64 0,.int .u64 0,.int .u64 0,.int .u64 0,.int .u64 0,.int .u64 0,.int .u64 0,.int .u64 0]) zk ?_
 intro b10 w11 hs12
 refine Lo (aL (Lt (Ls (Ls (Lg [6] (Lu (Dz ?_)))))))
 refine ar.aW rfl zk (t:=156) (e:=23) (n:=3) (ps:=[(0,.func (.func 81) #[zP b10 0] #[]),(1,.func (.func 82) #[zP b10 0] #[]),(2,.func (.func 83) #[zP b10 0] #[])]) zk zk (ti:=Tryz.t23) (z:=.nilFunc) zk zk zf zf (cs:=#[.func (.func 81) #[zP b10 0] #[],.func (.func 82) #[zP b10 0] #[],.func (.func 83) #[zP b10 0] #[]]) zk hs12 ?_
 intro b13 w14 hs15 hz16
 refine Lo (aL (Lt (Lb (Dz ?_))))
 refine aE.dJ 4 ?_
 refine En (Ls (La (Lt (Ls (LT (Lk (Lt (Ls (Lb (Ls (Dz ?_)))))))))))
 refine bj (Hx 0 (0:Int) (3:Int) b13 0 1 (Hl 1 0 0 hs15 Hz)) ?_
 refine En (Lt (Ls (Lg [1] (Lu (Dz ?_)))))
 have hs17:=(hs15.pl 2).pl 2
 refine aF Tryz.call81 (jC 5 i k bo wq c hi.1 (Int.le_trans hi.2 zf) hd.EW (Nat.le_trans hd.Ee zf) hd.EX hd.EY hd.ci (λw h=>hTab w (h.drop 2)) hs17) ?_
 rintro v23 w24 ⟨ub18,cb19,ab20,bc21,rfl,hs22⟩
 refine Lo (Ld (Lt (LF (Lk (Lm (Lt (La (Dz ?_))))))))
 refine aw.again ?_
 refine En (Ls (La (Lt (Ls (LT (Lk (Lt (Ls (Lb (Ls (Dz ?_)))))))))))
 refine bj (Hx 0 (1:Int) (3:Int) b13 0 1 (Hl 1 4 1 hs22 Hz)) ?_
 refine En (Lt (Ls (Lg [1] (Lu (Dz ?_)))))
 have hs25:=(hs22.pl 3).pl 1
 refine aF Tryz.call82 (mP 5 i k 1 1 3 rs zf hd.lf hd.bk (by have h1:=hd.ln;have h2:=hd.Ee;omega) (by have h1:=hd.en;have h2:=hd.Ee;show cG 40 rs<8212;omega) hs25) ?_
 rintro v31 w32 ⟨ll26,ra27,rc28,rfl,hll29,hs30⟩
 refine Lo (Ld (Lt (LF (Lk (Lm (Lt (La (Dz ?_))))))))
 refine aw.again ?_
 refine En (Ls (La (Lt (Ls (LT (Lk (Lt (Ls (Lb (Ls (Dz ?_)))))))))))
 refine bj (Hx 0 (2:Int) (3:Int) b13 0 1 (Hl 1 6 2 hs30 Hz)) ?_
 refine En (Lt (Ls (Lg [1] (Lu (Dz ?_)))))
 have hs33:=((((hs30.pl 5).pl 5).pl 5).pl 5).pl 4
 refine aF Tryz.call83 (ud i k 1 (cG 40 rs) ll26 rs bo hi hll29 hd.gd (by rw [<- hd.ln,<- hll29,List.length_map]) (Nat.le_trans hd.Ee zf) hd.EW hd.EX hd.EY hd.E2 (λw h=>hTab w (h.drop 3)) hs33) ?_
 rintro v36 w37 ⟨ra34,rfl,hs35⟩
 refine Lo (Dz ?_)
 refine Zd (Zt (CE (Zx (aw.CB zf (aw.da (aw.dc (aw.jR (Zt (Zs ?_)))))))))
 refine Za (Zt (Ze (?_)))
 refine jE (v:=zP b10 0) (v':=.int .i64 0) ?_
 have hkl:ll26.length=k:=by rw [<- hd.ln,<- hll29,List.length_map]
 subst hkl
 have hs38:St w0 (ah b10 #[.int .i64 5,.int .i64 i,zP d 0,zP ub18 0,.slice ra34 ll26.length rc28,.int .u8 (gn i ll26.length),.int .i64 0,.int .u64 (ll26.length:Nat),.int .u64 1,.int .i64 (ll26.length:Nat),.int .i64 (cG 40 rs:Nat),.int .i64 0,.int .u64 ((aA ll26.length)[0]),.int .u64 ((aA ll26.length)[1]),.int .u64 ((aA ll26.length)[2]),.int .u64 ((aA ll26.length)[3]),.int .u64 ((aA ll26.length)[4]),.int .u64 ((aA ll26.length)[5]),.int .u64 ((aA ll26.length)[6]),.int .u64 ((aA ll26.length)[7]),.int .u64 ((aA ll26.length)[8]),.int .u64 ((aA ll26.length)[9]),.int .u64 ((aA ll26.length)[10])] 91::DK d D nk g::ah b13 #[.func (.func 81) #[zP b10 0] #[],.func (.func 82) #[zP b10 0] #[],.func (.func 83) #[zP b10 0] #[]] 23::RP r1 i 0 rg2::L) w37:=hs35
 have hs39:=(((hs38.pl 1).pl 1).pl 3).pl 3
 have hs40:=hs39.dr 2
 exact⟨b10,ub18,ra34,rc28,rfl,hs40⟩
theorem wz {w0 w:World}{L:List aI}{d:Nat}(hs:St w0 L w):Calls Tryz.prog 35 #[.int .i64 4,.int .i64 1,zP d 0] w (aZ λrv w'=>rv=.tuple #[.pointer none,.int .i64 1]/\St w0 L w'):=by
 refine bp Tryz.func35 Tryz.ntmps35 ?_
 refine En (Ls (La (Lt (Ls (Ls (La (Lt (LF (Lk (Lt (Ls (Ls (Lg [2] (Lu (Dz ?_)))))))))))))))
 refine aF Tryz.call16 (wm 1 hs) ?_
 rintro v2 w3 ⟨rfl,hs1⟩
 refine Lo (aL (Lt (Ls (La (Lt (LT (Ls (La (Lt (Le (Ly (Dz ?_))))))))))))
 refine jE (v:=.pointer none) (v':=.int .i64 1) ?_
 exact⟨rfl,hs1⟩
theorem oU {w0 w:World}{L:List aI}{d:Nat}{D:Nat->aC}{nk:Nat}{g:et}(hc1:bz D 0 0 2 []) (hc2:bz D 20 0 2 []) (hz:∀ a,40<=a->D a=fX) (hTab:∀ w,St w0 L w->cQ w) (hs:St w0 (DK d D nk g::L) w):Calls Tryz.prog 35 #[.int .i64 3,.int .i64 1,zP d 0] w (aZ λrv w'=>∃ (ip:Nat) (ub:Nat) (ra:Option Addr) (rc:Nat) (cb:Nat) (ab:Option Addr) (bc:Nat),rv=.tuple #[zP ip 0,.int .i64 0]/\St w0 (ah ip #[.int .i64 3,.int .i64 1,zP d 0,zP ub 0,.slice ra (([]:List cM).length) rc,.int .u8 1,.int .i64 0,.int .u64 0,.int .u64 0,.int .i64 0,.int .i64 40,.int .i64 0,.int .u64 0,.int .u64 0,.int .u64 0,.int .u64 0,.int .u64 0,.int .u64 0,.int .u64 0,.int .u64 0,.int .u64 0,.int .u64 0,.int .u64 0] 91::Sl ra rc 85 1 cM.cells ([]:List cM)::ah ub #[zP cb 0,.int .i64 1,.int .u64 0,.slice ab (([]:List Int).length) bc] 126::Sl ab bc 5 1 af ([]:List Int)::DK d D nk g::L) w'):=by
 refine bp Tryz.func35 Tryz.ntmps35 ?_
 refine En (Ls (La (Lt (Ls (Ls (La (Lt (LF (Lk (Lt (Ls (Ls (Lg [2] (Lu (Dz ?_)))))))))))))))
 refine aF Tryz.call16 (kC 1 zf hs) ?_
 rintro v4 w5 ⟨r1,rg2,rfl,hs3⟩
 refine Lo (aL (Lt (Ls (La (Lt (LF (Lk (Lt (Ls (Ls (Lg [1] (Lu (Dz ?_)))))))))))))
 have hs6:=hs3.pl 1
 refine aF Tryz.call80 (hK hs6) ?_
 rintro v8 w9 ⟨rfl,hs7⟩
 refine Lo (aL (Lt (LF (Lk (Lt (Ls (Lg [4] (Lu (Dz ?_)))))))))
 refine ar.box rfl rfl zk (v:=.agg #[.int .i64 3,.int .i64 1,zP d 0,.pointer none,.slice none 0 0,.int .u8 0,.int .i64 0,.int .u64 0,.int .u64 0,.int .i64 0,.int .i64 0,.int .i64 0,.int .u64 0,.int .u64 0,.int .u64 0,.int .u64 0,.int .u64 0,.int .u64 0,.int .u64 0,.int .u64 0,.int .u64 0,.int .u64 0,.int .u64 0]) zk hs7 (cs:=#[.int .i64 3,.int .i64 1,zP d 0,.pointer none,.slice none 0 0,.int .u8 0,.int .i64 0,.int .u64 0,.int .u64 0,.int .i64 0,.int .i64 0,.int .i64 0,.int .u64 0,.int .u64 0,.int .u64 0,.int .u64 0,.int .u64 0,.int .u64 0,.int .u64 0,.int .u64 0,.int .u64 0,.int .u64 0,.int .u64 0]) zk ?_
 intro b10 w11 hs12
 refine Lo (aL (Lt (Ls (Ls (Lg [6] (Lu (Dz ?_)))))))
 refine ar.aW rfl zk (t:=156) (e:=23) (n:=3) (ps:=[(0,.func (.func 81) #[zP b10 0] #[]),(1,.func (.func 82) #[zP b10 0] #[]),(2,.func (.func 83) #[zP b10 0] #[])]) zk zk (ti:=Tryz.t23) (z:=.nilFunc) zk zk zf zf (cs:=#[.func (.func 81) #[zP b10 0] #[],.func (.func 82) #[zP b10 0] #[],.func (.func 83) #[zP b10 0] #[]]) zk hs12 ?_
 intro b13 w14 hs15 hz16
 refine Lo (aL (Lt (Lb (Dz ?_))))
 refine aE.dJ 4 ?_
 refine En (Ls (La (Lt (Ls (LT (Lk (Lt (Ls (Lb (Ls (Dz ?_)))))))))))
 refine bj (Hx 0 (0:Int) (3:Int) b13 0 1 (Hl 1 0 0 hs15 Hz)) ?_
 refine En (Lt (Ls (Lg [1] (Lu (Dz ?_)))))
 have hs17:=(hs15.pl 2).pl 2
 refine aF Tryz.call81 (jC 3 1 0 ([]:List Int) 0 2 zf zf (λ_=>rfl) zf zf (λz hz=>by cases hz) hc1 (λw h=>hTab w (h.drop 2)) hs17) ?_
 rintro v23 w24 ⟨ub18,cb19,ab20,bc21,rfl,hs22⟩
 refine Lo (Ld (Lt (LF (Lk (Lm (Lt (La (Dz ?_))))))))
 refine aw.again ?_
 refine En (Ls (La (Lt (Ls (LT (Lk (Lt (Ls (Lb (Ls (Dz ?_)))))))))))
 refine bj (Hx 0 (1:Int) (3:Int) b13 0 1 (Hl 1 4 1 hs22 Hz)) ?_
 refine En (Lt (Ls (Lg [1] (Lu (Dz ?_)))))
 have hs25:=(hs22.pl 3).pl 1
 refine aF Tryz.call82 (mP 3 1 0 0 0 2 ([]:List (List Int)) zf hc2 (λx hx=>hz x hx) zf zf hs25) ?_
 rintro v31 w32 ⟨ll26,ra27,rc28,rfl,hll29,hs30⟩
 refine Lo (Ld (Lt (LF (Lk (Lm (Lt (La (Dz ?_))))))))
 refine aw.again ?_
 refine Zs (?_)
 obtain rfl:ll26=[]:=List.map_eq_nil_iff.1 hll29
 have hs33:St w0 (ah b10 #[.int .i64 3,.int .i64 1,zP d 0,zP ub18 0,.slice ra27 (([]:List cM).length) rc28,.int .u8 0,.int .i64 0,.int .u64 0,.int .u64 0,.int .i64 0,.int .i64 40,.int .i64 0,.int .u64 0,.int .u64 0,.int .u64 0,.int .u64 0,.int .u64 0,.int .u64 0,.int .u64 0,.int .u64 0,.int .u64 0,.int .u64 0,.int .u64 0] 91::DK d D nk g::Sl ra27 rc28 85 1 cM.cells ([]:List cM)::QB []::ah ub18 #[zP cb19 0,.int .i64 1,.int .u64 0,.slice ab20 (([]:List Int).length) bc21] 126::Sl ab20 bc21 5 1 af ([]:List Int)::ah b13 #[.func (.func 81) #[zP b10 0] #[],.func (.func 82) #[zP b10 0] #[],.func (.func 83) #[zP b10 0] #[]] 23::RQ r1 1 rg2::L) w32:=hs30
 refine En (La (Lt (Ls (LT (Lk (Lt (Ls (Lb (Ls (Dz ?_))))))))))
 refine bj (Hx 0 (2:Int) (3:Int) b13 0 1 (Hl 1 6 2 hs33 Hz)) ?_
 refine En (Lt (Ls (Lg [1] (Lu (Dz ?_)))))
 have hs34:=(((hs33.pl 5).pl 5).pl 4).pl 3
 refine aF Tryz.call83 (ue 1 zf (λw h=>hTab w (h.drop 4)) hs34) ?_
 rintro v36 w37 ⟨rfl,hs35⟩
 refine Lo (Dz ?_)
 refine Zd (Zt (CE (Zx (aw.CB zf (aw.da (aw.dc (aw.jR (Zt (Zs ?_)))))))))
 refine Za (Zt (Ze (?_)))
 refine jE (v:=zP b10 0) (v':=.int .i64 0) ?_
 have hs38:=(((((((hs35.pl 4).pl 4).pl 4).pl 4).pl 4).pl 7).pl 7).pl 7
 have hs39:=hs38.dr 3
 exact⟨b10,ub18,ra27,rc28,cb19,ab20,bc21,rfl,hs39⟩
theorem uf {w0 w:World}{L:List aI}{d:Nat}{D:Nat->aC}{nk:Nat}{g:et}(hZ:∀ a,D a=fX) (hTab:∀ w,St w0 L w->cQ w) (hs:St w0 (DK d D nk g::L) w):Calls Tryz.prog 35 #[.int .i64 3,.int .i64 1,zP d 0] w (aZ λrv w'=>∃ (ip:Nat),rv=.tuple #[zP ip 0,.int .i64 0]/\St w0 (ah ip #[.int .i64 3,.int .i64 1,zP d 0,.pointer none,.slice none 0 0,.int .u8 3,.int .i64 9,.int .u64 0,.int .u64 0,.int .i64 0,.int .i64 0,.int .i64 0,.int .u64 0,.int .u64 0,.int .u64 0,.int .u64 0,.int .u64 0,.int .u64 0,.int .u64 0,.int .u64 0,.int .u64 0,.int .u64 0,.int .u64 0] 91::DK d D nk g::L) w'):=by
 refine bp Tryz.func35 Tryz.ntmps35 ?_
 refine En (Ls (La (Lt (Ls (Ls (La (Lt (LF (Lk (Lt (Ls (Ls (Lg [2] (Lu (Dz ?_)))))))))))))))
 refine aF Tryz.call16 (kC 1 zf hs) ?_
 rintro v4 w5 ⟨r1,rg2,rfl,hs3⟩
 refine Lo (aL (Lt (Ls (La (Lt (LF (Lk (Lt (Ls (Ls (Lg [1] (Lu (Dz ?_)))))))))))))
 have hs6:=hs3.pl 1
 refine aF Tryz.call80 (hK hs6) ?_
 rintro v8 w9 ⟨rfl,hs7⟩
 refine Lo (aL (Lt (LF (Lk (Lt (Ls (Lg [4] (Lu (Dz ?_)))))))))
 refine ar.box rfl rfl zk (v:=.agg #[.int .i64 3,.int .i64 1,zP d 0,.pointer none,.slice none 0 0,.int .u8 0,.int .i64 0,.int .u64 0,.int .u64 0,.int .i64 0,.int .i64 0,.int .i64 0,.int .u64 0,.int .u64 0,.int .u64 0,.int .u64 0,.int .u64 0,.int .u64 0,.int .u64 0,.int .u64 0,.int .u64 0,.int .u64 0,.int .u64 0]) zk hs7 (cs:=#[.int .i64 3,.int .i64 1,zP d 0,.pointer none,.slice none 0 0,.int .u8 0,.int .i64 0,.int .u64 0,.int .u64 0,.int .i64 0,.int .i64 0,.int .i64 0,.int .u64 0,.int .u64 0,.int .u64 0,.int .u64 0,.int .u64 0,.int .u64 0,.int .u64 0,.int .u64 0,.int .u64 0,.int .u64 0,.int .u64 0]) zk ?_
 intro b10 w11 hs12
 refine Lo (aL (Lt (Ls (Ls (Lg [6] (Lu (Dz ?_)))))))
 refine ar.aW rfl zk (t:=156) (e:=23) (n:=3) (ps:=[(0,.func (.func 81) #[zP b10 0] #[]),(1,.func (.func 82) #[zP b10 0] #[]),(2,.func (.func 83) #[zP b10 0] #[])]) zk zk (ti:=Tryz.t23) (z:=.nilFunc) zk zk zf zf (cs:=#[.func (.func 81) #[zP b10 0] #[],.func (.func 82) #[zP b10 0] #[],.func (.func 83) #[zP b10 0] #[]]) zk hs12 ?_
 intro b13 w14 hs15 hz16
 refine Lo (aL (Lt (Lb (Dz ?_))))
 refine aE.dJ 4 ?_
 refine En (Ls (La (Lt (Ls (LT (Lk (Lt (Ls (Lb (Ls (Dz ?_)))))))))))
 refine bj (Hx 0 (0:Int) (3:Int) b13 0 1 (Hl 1 0 0 hs15 Hz)) ?_
 refine En (Lt (Ls (Lg [1] (Lu (Dz ?_)))))
 have hs17:=(hs15.pl 2).pl 2
 refine aF Tryz.call81 (na 3 1 zf zf (λa _ _=>hZ a) (λw h=>hTab w (h.drop 2)) hs17) ?_
 rintro v19 w20 ⟨rfl,hs18⟩
 refine Lo (Dz ?_)
 refine Zd (Zt (CE (Zx (aw.CB zf (aw.da (aw.dc (aw.jR (Zt (Zs ?_)))))))))
 refine Za (Zt (Ze (?_)))
 refine jE (v:=zP b10 0) (v':=.int .i64 0) ?_
 have hs21:=(((hs18.pl 1).pl 1).pl 3).pl 3
 have hs22:=hs21.dr 2
 exact⟨b10,rfl,hs22⟩
theorem wA {w0 w:World}{L:List aI}{d:Nat}{D:Nat->aC}{nk:Nat}{g:et}(i:Int) (k:Nat) (rs:List (List Int)) (wq:Nat) (c:Int) (bo:List Int) (hi:1<=i/\i<=5) (hd:oT D wq c bo k rs) (hTab:∀ w,St w0 L w->cQ w) (hs:St w0 (DK d D nk g::L) w):Calls Tryz.prog 10 #[.int .i64 5,.int .i64 i,zP d 0] w (aZ λrv w'=>rv=.tuple #[.agg #[.int .u8 (gn i k),.int .i64 0,.int .u64 (k:Nat),.int .u64 1,.int .i64 (k:Nat),.int .i64 (cG 40 rs:Nat),.int .i64 0,.int .u64 ((aA k)[0]),.int .u64 ((aA k)[1]),.int .u64 ((aA k)[2]),.int .u64 ((aA k)[3]),.int .u64 ((aA k)[4]),.int .u64 ((aA k)[5]),.int .u64 ((aA k)[6]),.int .u64 ((aA k)[7]),.int .u64 ((aA k)[8]),.int .u64 ((aA k)[9]),.int .u64 ((aA k)[10])],.int .i64 0]/\St w0 (DK d D nk g::L) w'):=by
 refine bp Tryz.func10 Tryz.ntmps10 ?_
 refine En (Ls (Lg [0] (Dz ?_)))
 refine ar.alloc rfl rfl zk (z:=.agg nC) zk hs (cs:=nC) zk ?_
 intro b1 w2 hs3
 refine Lo (aL (Lt (Ls (Lg [3] (Lu (Dz ?_))))))
 have hs4:=hs3.pl 1
 refine aF Tryz.call35 (wy i k rs wq c bo hi hd (λw h=>hTab w (h.drop 1)) hs4) ?_
 rintro v10 w11 ⟨ip5,ub6,ra7,rc8,rfl,hs9⟩
 refine Lo (aL (Lt (Ls (Ls (La (Lt (LF (Lk (Lt (Ls (Dz ?_)))))))))))
 refine bL [4] (du 3 0 5 18 (#[.int .u8 (gn i k),.int .i64 0,.int .u64 (k:Nat),.int .u64 1,.int .i64 (k:Nat),.int .i64 (cG 40 rs:Nat),.int .i64 0,.int .u64 ((aA k)[0]),.int .u64 ((aA k)[1]),.int .u64 ((aA k)[2]),.int .u64 ((aA k)[3]),.int .u64 ((aA k)[4]),.int .u64 ((aA k)[5]),.int .u64 ((aA k)[6]),.int .u64 ((aA k)[7]),.int .u64 ((aA k)[8]),.int .u64 ((aA k)[9]),.int .u64 ((aA k)[10])]) hs9 Hz) ?_
 refine Zv (b:=b1) (off:=0) (v:=.agg #[.int .u8 (gn i k),.int .i64 0,.int .u64 (k:Nat),.int .u64 1,.int .i64 (k:Nat),.int .i64 (cG 40 rs:Nat),.int .i64 0,.int .u64 ((aA k)[0]),.int .u64 ((aA k)[1]),.int .u64 ((aA k)[2]),.int .u64 ((aA k)[3]),.int .u64 ((aA k)[4]),.int .u64 ((aA k)[5]),.int .u64 ((aA k)[6]),.int .u64 ((aA k)[7]),.int .u64 ((aA k)[8]),.int .u64 ((aA k)[9]),.int .u64 ((aA k)[10])]) (ti:=Tryz.t49) zk hs9 2 (cs':=#[.int .u8 (gn i k),.int .i64 0,.int .u64 (k:Nat),.int .u64 1,.int .i64 (k:Nat),.int .i64 (cG 40 rs:Nat),.int .i64 0,.int .u64 ((aA k)[0]),.int .u64 ((aA k)[1]),.int .u64 ((aA k)[2]),.int .u64 ((aA k)[3]),.int .u64 ((aA k)[4]),.int .u64 ((aA k)[5]),.int .u64 ((aA k)[6]),.int .u64 ((aA k)[7]),.int .u64 ((aA k)[8]),.int .u64 ((aA k)[9]),.int .u64 ((aA k)[10])]) ?_
 intro w12 hs13
 refine Lo (aL (Lt (Le (Dz ?_))))
 refine aw.done (.inl rfl) (v:=.tuple #[.agg #[.int .u8 (gn i k),.int .i64 0,.int .u64 (k:Nat),.int .u64 1,.int .i64 (k:Nat),.int .i64 (cG 40 rs:Nat),.int .i64 0,.int .u64 ((aA k)[0]),.int .u64 ((aA k)[1]),.int .u64 ((aA k)[2]),.int .u64 ((aA k)[3]),.int .u64 ((aA k)[4]),.int .u64 ((aA k)[5]),.int .u64 ((aA k)[6]),.int .u64 ((aA k)[7]),.int .u64 ((aA k)[8]),.int .u64 ((aA k)[9]),.int .u64 ((aA k)[10])],.int .i64 0]) (λa hf=>fP rfl zk zk (ti:=Tryz.t49) zk zk (vs:=#[.int .u8 (gn i k),.int .i64 0,.int .u64 (k:Nat),.int .u64 1,.int .i64 (k:Nat),.int .i64 (cG 40 rs:Nat),.int .i64 0,.int .u64 ((aA k)[0]),.int .u64 ((aA k)[1]),.int .u64 ((aA k)[2]),.int .u64 ((aA k)[3]),.int .u64 ((aA k)[4]),.int .u64 ((aA k)[5]),.int .u64 ((aA k)[6]),.int .u64 ((aA k)[7]),.int .u64 ((aA k)[8]),.int .u64 ((aA k)[9]),.int .u64 ((aA k)[10])]) zk (hs13.cells 2 0 rfl zk) a hf) ?_
 have hs14:=((hs13.pl 1).pl 2).pl 2
 have hs15:=hs14.dr 2
 exact⟨rfl,hs15⟩
theorem wB {w0 w:World}{L:List aI}{d:Nat}(hs:St w0 L w):Calls Tryz.prog 10 #[.int .i64 4,.int .i64 1,zP d 0] w (aZ λrv w'=>rv=.tuple #[.agg nC,.int .i64 1]/\St w0 L w'):=by
 refine bp Tryz.func10 Tryz.ntmps10 ?_
 refine En (Ls (Lg [0] (Dz ?_)))
 refine ar.alloc rfl rfl zk (z:=.agg nC) zk hs (cs:=nC) zk ?_
 intro b1 w2 hs3
 refine Lo (aL (Lt (Ls (Lg [3] (Lu (Dz ?_))))))
 refine aF (f:=35) (args:=#[.int .i64 4,.int .i64 1,zP d 0]) Tryz.call35 (wz hs3) ?_
 rintro v5 w6 ⟨rfl,hs4⟩
 refine Lo (aL (Lt (Ls (Ls (La (Lt (LT (Ls (Lg [2] (Lu (Dz ?_)))))))))))
 refine Zv (b:=b1) (off:=0) (v:=.agg nC) (ti:=Tryz.t49) zk hs4 0 (cs':=nC) ?_
 intro w7 hs8
 refine Lo (aL (Lt (Le (Ly (Dz ?_)))))
 refine aw.done (.inl rfl) (v:=.tuple #[.agg nC,.int .i64 1]) (λa hf=>fP rfl zk zk (ti:=Tryz.t49) zk zk (vs:=nC) zk (hs8.cells 0 0 rfl zk) a hf) ?_
 have hs9:=hs8.dr 1
 exact⟨rfl,hs9⟩
theorem wC {w0 w:World}{L:List aI}{d:Nat}{D:Nat->aC}{nk:Nat}{g:et}(hc1:bz D 0 0 2 []) (hc2:bz D 20 0 2 []) (hz:∀ a,40<=a->D a=fX) (hTab:∀ w,St w0 L w->cQ w) (hs:St w0 (DK d D nk g::L) w):Calls Tryz.prog 10 #[.int .i64 3,.int .i64 1,zP d 0] w (aZ λrv w'=>rv=.tuple #[.agg xH,.int .i64 0]/\St w0 (DK d D nk g::L) w'):=by
 refine bp Tryz.func10 Tryz.ntmps10 ?_
 refine En (Ls (Lg [0] (Dz ?_)))
 refine ar.alloc rfl rfl zk (z:=.agg nC) zk hs (cs:=nC) zk ?_
 intro b1 w2 hs3
 refine Lo (aL (Lt (Ls (Lg [3] (Lu (Dz ?_))))))
 have hs4:=hs3.pl 1
 refine aF Tryz.call35 (oU hc1 hc2 hz (λw h=>hTab w (h.drop 1)) hs4) ?_
 rintro v13 w14 ⟨ip5,ub6,ra7,rc8,cb9,ab10,bc11,rfl,hs12⟩
 refine Lo (aL (Lt (Ls (Ls (La (Lt (LF (Lk (Lt (Ls (Dz ?_)))))))))))
 refine bL [4] (du 3 0 5 18 xH hs12 Hz) ?_
 refine Zv (b:=b1) (off:=0) (v:=.agg xH) (ti:=Tryz.t49) zk hs12 5 (cs':=xH) ?_
 intro w15 hs16
 refine Lo (aL (Lt (Le (Dz ?_))))
 refine aw.done (.inl rfl) (v:=.tuple #[.agg xH,.int .i64 0]) (λa hf=>fP rfl zk zk (ti:=Tryz.t49) zk zk (vs:=xH) zk (hs16.cells 5 0 rfl zk) a hf) ?_
 have hs17:=(((((hs16.pl 4).pl 5).pl 5).pl 5).pl 5).pl 5
 have hs18:=hs17.dr 5
 exact⟨rfl,hs18⟩
theorem uh {w0 w:World}{L:List aI}{d:Nat}{D:Nat->aC}{nk:Nat}{g:et}(hZ:∀ a,D a=fX) (hTab:∀ w,St w0 L w->cQ w) (hs:St w0 (DK d D nk g::L) w):Calls Tryz.prog 10 #[.int .i64 3,.int .i64 1,zP d 0] w (aZ λrv w'=>rv=.tuple #[.agg Ce,.int .i64 0]/\St w0 (DK d D nk g::L) w'):=by
 refine bp Tryz.func10 Tryz.ntmps10 ?_
 refine En (Ls (Lg [0] (Dz ?_)))
 refine ar.alloc rfl rfl zk (z:=.agg nC) zk hs (cs:=nC) zk ?_
 intro b1 w2 hs3
 refine Lo (aL (Lt (Ls (Lg [3] (Lu (Dz ?_))))))
 have hs4:=hs3.pl 1
 refine aF Tryz.call35 (uf hZ (λw h=>hTab w (h.drop 1)) hs4) ?_
 rintro v7 w8 ⟨ip5,rfl,hs6⟩
 refine Lo (aL (Lt (Ls (Ls (La (Lt (LF (Lk (Lt (Ls (Dz ?_)))))))))))
 refine bL [4] (du 3 0 5 18 Ce hs6 Hz) ?_
 refine Zv (b:=b1) (off:=0) (v:=.agg Ce) (ti:=Tryz.t49) zk hs6 2 (cs':=Ce) ?_
 intro w9 hs10
 refine Lo (aL (Lt (Le (Dz ?_))))
 refine aw.done (.inl rfl) (v:=.tuple #[.agg Ce,.int .i64 0]) (λa hf=>fP rfl zk zk (ti:=Tryz.t49) zk zk (vs:=Ce) zk (hs10.cells 2 0 rfl zk) a hf) ?_
 have hs11:=((hs10.pl 1).pl 2).pl 2
 have hs12:=hs11.dr 2
 exact⟨rfl,hs12⟩
theorem wD {w0 w:World}{L:List aI}{d:Nat}{D:Nat->aC}{nk:Nat}{g:et}(hc1:bz D 0 0 2 []) (hc2:bz D 20 0 2 []) (hz:∀ a,40<=a->D a=fX) (hTab:∀ w,St w0 L w->cQ w) (hs:St w0 (DK d D nk g::L) w):Calls Tryz.prog 11 #[.int .i64 3,.int .i64 1,zP d 0] w (aZ λrv w'=>rv=.tuple #[.int .i64 0,.bool true]/\St w0 (DK d D nk g::L) w'):=by
 refine bp Tryz.func11 Tryz.ntmps11 ?_
 refine En (Ls (La (Lt (Ls (Lg [3] (Lu (Dz ?_)))))))
 refine aF Tryz.call35 (oU hc1 hc2 hz (λw h=>hTab w (h.drop 0)) hs) ?_
 rintro v9 w10 ⟨ip1,ub2,ra3,rc4,cb5,ab6,bc7,rfl,hs8⟩
 refine Lo (aL (Lt (Ls (Ls (Dz ?_)))))
 refine bj (Hl 7 0 5 hs8 (Hl 15 0 5 hs8 Hz)) ?_
 refine En (Lt (LF (Lk (Lt (Ls (Ls (Dz ?_)))))))
 refine bj (Hl 3 0 4 hs8 Hz) ?_
 refine Zt (Zb (?_))
 refine aE.dJ 1 ?_
 refine En (Ls (Ls (La (Lt (Dz ?_)))))
 refine Zi (((([]:List cM).length:Nat):Int) >= 0) (λh11'=>?_) (λh11'=>?_)
 ·refine En (Lk (Lt (Ls (Lb (Ls (Lg [2] (Lu (Dz ?_))))))))
  refine aF Tryz.call36 (lI 1 1 zf hs8) ?_
  rintro v15 w16 ⟨r12,rg13,rfl,hs14⟩
  refine Lo (aL (Lt (Ls (La (Lt (LT (Ls (Lg [2,6,8] (Lu (Dz ?_))))))))))
  refine aF Tryz.call37 (lJ 1 1 rg13 zf (λw h=>hTab w (h.drop 1)) hs14) ?_
  rintro v18 w19 ⟨rfl,hs17⟩
  refine Lo (Lu (Dz ?_))
  refine ar.alloc rfl rfl zk (z:=.agg (aD.cells mw)) zk hs17 (cs:=aD.cells mw) zk ?_
  intro b20 w21 hs22
  refine Lo (Lu (Dz ?_))
  refine Zv (b:=b20) (off:=0) (v:=.agg (aD.cells (aA 0))) (ti:=Tryz.t41) zk hs22 0 (cs':=aD.cells (aA 0)) ?_
  intro w23 hs24
  refine Lo (Ld (Lt (Ls (La (Lt (LT (Ls (La (Lt (Le (Ll (Ly (uk (Ll (Ly (Dz ?_))))))))))))))))
  refine jE (v:=.int .i64 (([]:List cM).length:Nat)) (v':=.bool true) ?_
  have hs25:=hs24.dr 6
  exact⟨rfl,hs25⟩
 ·exfalso;have hz:=(decide_eq_false h11');first|omega|(simp at hz;done)
theorem yY {w0 w:World}{L:List aI}{d:Nat}{D:Nat->aC}{nk:Nat}{g:et}(hs:St w0 (DK d D nk g::L) w):Calls Tryz.prog 12 #[zP d 0] w (aZ λrv w'=>rv=.slice none 0 0/\St w0 (DK d D nk g::L) w'):=by
 refine bp Tryz.func12 Tryz.ntmps12 ?_
 refine En (Ls (La (Lt (Ls (Ls (La (Lt (Lb (Dz ?_)))))))))
 refine aE.loop (T:=Nat) (λgg=>[(0,zP d 0),(2,.slice none 0 0),(6,.int .i64 (gg:Nat))]) (λgg w=>(gg<=8212)/\St w0 (DK d D nk g::L) w) (λgg=>8212-gg) 0 [0,2,6] zk ⟨za,hs⟩ ?_
 rintro i w1 ⟨hp0,hs2⟩
 have hp:i<=8212:=hp0
 have hs3:St w0 (DK d D nk g::L) w1:=hs2
 refine Zn [(0,zP d 0),(2,.slice none 0 0),(6,.int .i64 (i:Nat))] ?_
 refine En (Ls (La (Lt (Ls (Dz ?_)))))
 refine Zi (((i:Nat):Int)<8212) (λh4'=>?_) (λh4'=>?_)
 ·refine En (Lk (Lt (Ls (Lb (Ls (La (Lt (Ls (Lg [2,6,7] (Lu (Dz ?_)))))))))))
  refine aF Tryz.call38 (gT i zc hs3) ?_
  rintro v6 w7 ⟨rfl,hs5⟩
  refine Lo (Lu (Dz ?_))
  refine ar.alloc rfl rfl zk (z:=.agg (aC.cells fX)) zk hs5 (cs:=aC.cells fX) zk ?_
  intro b8 w9 hs10
  refine Lo (Dz ?_)
  refine Zv (b:=b8) (off:=0) (v:=.agg (aC.cells (D i))) (ti:=Tryz.t96) zk hs10 0 (cs':=aC.cells (D i)) ?_
  intro w11 hs12
  refine Lo (aL (Lt (Ls (La (Lt (LF (Lk (Lm (Lt (Dz ?_))))))))))
  refine bj (cH 0 ((i:Nat)+1) Hz) ?_
  have hs13:=hs12.dr 1
  exact aw.back (i+1) [0,2,6] zk (by show 8212-(i+1)<8212-i;omega) ⟨za,hs13⟩
 ·refine En (Lx (gv (gw (Lh (Lt (Ls (La (Lt (Le (Dz ?_))))))))))
  refine bg (v:=.slice none 0 0) ?_
  exact⟨rfl,hs3⟩
theorem iR {w0 w:World}{L:List aI}(hTab:∀ w,St w0 L w->cQ w) (hs:St w0 L w):Calls Tryz.prog 4 #[] w (aZ λrv w'=>rv=.bool true/\St w0 L w'):=by
 refine bp Tryz.func4 Tryz.ntmps4 ?_
 refine En (Ls (La (Lt (Ls (Lg [0] (Dz ?_))))))
 refine aF Tryz.call5 (mf hs) ?_
 rintro v4 w5 ⟨dd1,gd2,rfl,hs3⟩
 refine Lo (aL (Lt (Ls (Ls (Lg [1] (Lu (Dz ?_)))))))
 refine aF Tryz.call6 (lG zf hs3) ?_
 rintro v12 w13 ⟨dq6,gd7,rfl,hc18,hc29,hout10,hs11⟩
 refine Lo (aL (Lt (LF (Lk (Lt (Ls (Lg [1,5,6] (Lu (Dz ?_)))))))))
 refine aF Tryz.call10 (wC hc18 hc29 (λa ha=>hout10 a ha) (λw h=>hTab w (h.drop 0)) hs11) ?_
 rintro v15 w16 ⟨rfl,hs14⟩
 refine Lo (Lu (Dz ?_))
 refine ar.alloc rfl rfl zk (z:=.agg nC) zk hs14 (cs:=nC) zk ?_
 intro b17 w18 hs19
 refine Lo (Dz ?_)
 refine Zv (b:=b17) (off:=0) (v:=.agg xH) (ti:=Tryz.t49) zk hs19 0 (cs':=xH) ?_
 intro w20 hs21
 refine Lo (aL (Lt (Ls (Lg [1,5,6] (Lu (Dz ?_))))))
 refine aF (f:=10) (args:=#[.int .i64 4,.int .i64 1,zP dd1 0]) Tryz.call10 (wB hs21) ?_
 rintro v23 w24 ⟨rfl,hs22⟩
 refine Lo (Lu (Dz ?_))
 refine ar.alloc rfl rfl zk (z:=.agg nC) zk hs22 (cs:=nC) zk ?_
 intro b25 w26 hs27
 refine Lo (Dz ?_)
 refine Zv (b:=b25) (off:=0) (v:=.agg nC) (ti:=Tryz.t49) zk hs27 0 (cs':=nC) ?_
 intro w28 hs29
 refine Lo (aL (Lt (Ls (Lg [1] (Lu (Dz ?_))))))
 have hs30:=hs29.pl 2
 refine aF Tryz.call11 (wD hc18 hc29 (λa ha=>hout10 a ha) (λw h=>hTab w (h.drop 2)) hs30) ?_
 rintro v32 w33 ⟨rfl,hs31⟩
 refine Lo (aL (Lt (Ls (Lg [0,1,5,6] (Dz ?_)))))
 refine aF Tryz.call5 (mf hs31) ?_
 rintro v37 w38 ⟨dd34,gd35,rfl,hs36⟩
 refine Lo (Dz ?_)
 refine aF Tryz.call10 (uh (λ_=>rfl) (λw h=>hTab w (h.drop 3)) hs36) ?_
 rintro v40 w41 ⟨rfl,hs39⟩
 refine Lo (Lu (Dz ?_))
 refine ar.alloc rfl rfl zk (z:=.agg nC) zk hs39 (cs:=nC) zk ?_
 intro b42 w43 hs44
 refine Lo (Dz ?_)
 refine Zv (b:=b42) (off:=0) (v:=.agg Ce) (ti:=Tryz.t49) zk hs44 0 (cs':=Ce) ?_
 intro w45 hs46
 refine Lo (aL (Lt (Ls (Lg [34] (Dz ?_)))))
 refine Zp 0 5 [(3,.agg xH)] [(3,[.prop (Array.size (xH:Array Value)=18),.cells ⟨b17,0,none⟩ xH])] (ak (aB zk (dq (hs46.cells 4 0 rfl zk) av)) cW) ?_
 refine ar.jY rfl zk (b:=true) (t:=49) (xs:=xH) (ys:=xH) (m:=3) zk zk zf zk (r:=true) zk ?_
 refine Zj (Hl 24 0 0 hs46 (Hl 29 0 1 hs46 Hz)) ?_
 have hs47:=hs46.pl 2
 refine aF Tryz.call12 (yY hs47) ?_
 rintro v49 w50 ⟨rfl,hs48⟩
 refine Lo (aL (Lt (Le (Dz ?_))))
 refine bg (v:=.bool true) ?_
 have hs51:=hs48.dr 5
 exact⟨rfl,hs51⟩
structure B8 (w0:World) (L:List aI) (b:aK):Prop where
 ok:eI b
 nn:Nn b.qa b.qc
 rows:∀ w,St w0 L w->ag w b.qa b.ql.length 2 (λk=>aT.cells (b.ql.getD k aR))
theorem D5 {w0:World}{L:List aI}{l:List aK}(h:∀ b∈l,B8 w0 L b){i:Nat}(hi:i<l.length):B8 w0 L (l.getD i cU):=by
 rw [List.getD_eq_getElem?_getD,List.getElem?_eq_getElem hi]
 exact h _ (List.getElem_mem hi)
theorem xC {i:Int}{k:Nat}:(gn i k == 1)=((i == 2) || (((k:Nat):Int) == 0)):=by
 unfold gn
 by_cases h:i=2<;>by_cases h2:k=0<;>simp [h,h2]
theorem ui {w0 w:World}{L:List aI}{d:Nat}{D:Nat->aC}{nk:Nat}{g:et}(i:Int) (k:Nat) (rs:List (List Int)) (wq:Nat) (c:Int) (bo:List Int) (hi:1<=i/\i<=5) (hd:oT D wq c bo k rs) (hTab:∀ w,St w0 L w->cQ w) (hs:St w0 (DK d D nk g::L) w):Calls Tryz.prog 10 #[.int .i64 5,.int .i64 i,zP d 0] w (aZ λrv w'=>∃ (kn0:Int) (kn1:Int) (kn2:Int) (kn3:Int) (kn4:Int) (kn5:Int) (kn6:Int) (kn7:Int) (kn8:Int) (kn9:Int) (kn10:Int),rv=.tuple #[.agg #[.int .u8 (gn i k),.int .i64 0,.int .u64 (k:Nat),.int .u64 1,.int .i64 (k:Nat),.int .i64 (cG 40 rs:Nat),.int .i64 0,.int .u64 kn0,.int .u64 kn1,.int .u64 kn2,.int .u64 kn3,.int .u64 kn4,.int .u64 kn5,.int .u64 kn6,.int .u64 kn7,.int .u64 kn8,.int .u64 kn9,.int .u64 kn10],.int .i64 0]/\St w0 (DK d D nk g::L) w'):=by
 refine Calls.ret (wA i k rs wq c bo hi hd hTab hs) ?_
 rintro v w2 ⟨rfl,h⟩
 exact⟨_,_,_,_,_,_,_,_,_,_,_,rfl,h⟩
theorem Bk {w0 w:World}{L:List aI}{al:Option Addr}{cl:Nat}(l:List aK) (other:Int) (hbs:∀ b∈l,B8 w0 L b) (hoth:0<=other/\other<=255) (hTab:∀ w,St w0 L w->cQ w) (hr:∀ w,St w0 L w->ag w al l.length 76 (λk=>aK.cells (l.getD k cU))) (hs:St w0 L w):Calls Tryz.prog 3 #[.slice al l.length cl,.int .u8 other] w (aZ λrv w'=>rv=.bool true/\St w0 L w'):=by
 refine bp Tryz.func3 Tryz.ntmps3 ?_
 refine En (Ls (La (Lt (Ls (Ls (La (Lt (Dz ?_))))))))
 refine Zi (((l.length:Nat):Int)>20) (λh1'=>?_) (λh1'=>?_)
 ·refine En (Ls (Lg [0] (Dz ?_)))
  refine aF Tryz.call4 (iR (λw h=>hTab w (h.drop 0)) hs) ?_
  rintro v3 w4 ⟨rfl,hs2⟩
  refine Lo (aL (Lt (Le (Ly (Dz ?_)))))
  refine bg (v:=.bool true) ?_
  exact⟨rfl,hs2⟩
 ·refine En (Lk (Lt (Ls (Lg [0] (Dz ?_)))))
  refine aF Tryz.call5 (mf hs) ?_
  rintro v8 w9 ⟨dd5,gd6,rfl,hs7⟩
  refine Lo (aL (Lt (Ls (Ls (Lg [1] (Lu (Dz ?_)))))))
  refine aF Tryz.call6 (lG zK hs7) ?_
  rintro v16 w17 ⟨dq10,gd11,rfl,hc112,hc213,hout14,hs15⟩
  refine Lo (aL (Lt (LF (Lk (Lt (Ls (Lg [1] (Lu (Dz ?_)))))))))
  refine aF Tryz.call7 (wu hc112 hc213 (λa ha=>hout14 a ha) zK (λw h=>hTab w (h.drop 0)) hs15) ?_
  rintro v21 w22 ⟨u18,ug19,rfl,hs20⟩
  refine Lo (aL (Lt (Ls (Ls (La (Lt (LF (Lk (Lt (Ls (La (Lt (Ls (Ls (La (Lt (Lb (Dz ?_))))))))))))))))))
  refine aE.loop (T:=Nat×Nat×(List (List Int))×Bh×(Option Addr)) (λgg=>[(0,.slice gg.2.2.2.2 l.length cl),(1,.int .u8 other),(5,zP dd5 0),(6,zP u18 0),(8,.int .i64 (gg.2.1:Nat)),(9,.int .i64 (gg.1:Nat))]) (λgg w=>(gg.1<=l.length/\gg.2.1<=gg.1/\∀ w,St w0 L w->ag w gg.2.2.2.2 l.length 76 (λq=>aK.cells (l.getD q cU)))/\St w0 (DU u18 dd5 gg.2.1 gg.2.2.1 gg.2.2.2.1::L) w) (λgg=>l.length-gg.1) (0,0,[],ug19,al) [0,1,5,6,8,9] zk ⟨⟨Nat.zero_le _,Nat.le_refl _,hr⟩,hs20⟩ ?_
  rintro⟨i,k,rs,ug,aq⟩ w23 ⟨hp0,hs24⟩
  have hp:i<=l.length/\k<=i/\∀ w,St w0 L w->ag w aq l.length 76 (λq=>aK.cells (l.getD q cU)):=hp0
  have hs25:St w0 (DU u18 dd5 k rs ug::L) w23:=hs24
  refine Zn [(0,.slice aq l.length cl),(1,.int .u8 other),(5,zP dd5 0),(6,zP u18 0),(8,.int .i64 (k:Nat)),(9,.int .i64 (i:Nat))] ?_
  have hw:=hp.2.2
  refine En (Ls (Ls (La (Lt (Dz ?_)))))
  refine Zi (((i:Nat):Int)<(l.length:Nat)) (λh26'=>?_) (λh26'=>?_)
  ·have hk:i<l.length:=za
   have hbi:B8 w0 L (l.getD i cU):=D5 hbs hk
   obtain⟨ab27,ao28,rfl⟩:=ag.isSome (hw _ (hs25.drop 1)) za
   refine Zk (Zt (Zs (Zb (Zs (Zs (?_))))))
   refine aE.join (T:=Unit) (E:=λ_=>[(84,.bool ((decide ((((l.getD i cU).ql.length:Nat):Int)>20)) || (decide ((IntKind.i64.wrap (IntKind.i64.wrap (IntKind.i64.wrap ((((((l.getD i cU).rq).op).ky).size:Nat)+(((((l.getD i cU).rq).op).va).size:Nat))+(((((l.getD i cU).rq).op).ol).size:Nat))+(((((l.getD i cU).rq).op).tx).size:Nat)):Int)>1024)))),(0,zL ab27 ao28 l.length cl),(1,.int .u8 other),(5,zP dd5 0),(6,zP u18 0),(8,.int .i64 (k:Nat)),(9,.int .i64 (i:Nat))]) (F:=λ_ w=>St w0 (DU u18 dd5 k rs ug::L) w) ?_ ?_
   ·refine aE.aV [0,0,3,7,15,31,63,127,255,255,1023,2047,4095,8191,16383,32767,255,255,196863,459007,983295,2031871,4129023,8323327,16777215,255,255,100663551,234881279,503316735,1040187647,2113929471,4261413119,8589934591,255,255,51539607807,120259084543,257698038015,532575944959,1082331758847,2181843386623,4398046511103,8796093022207,17592186044415] (.rd 0 (.rd 1 (.rd 2 (.rd 3 (.rd 4 (.rd 5 (.rd 6 (.rd 7 (.rd 8 (.rd 9 (.rd 10 (.rd 11 (.rd 12 (.rd 13 (.rd 14 (.rd 15 (.rd 16 (.rd 17 (.rd 18 (.rd 19 (.rd 20 (.rd 21 (.rd 22 (.rd 23 (.rd 24 (.rd 25 (.rd 26 (.rd 27 (.rd 28 (.rd 29 (.rd 30 (.rd 31 (.rd 32 (.rd 33 (.rd 34 (.rd 35 (.rd 36 (.rd 37 (.rd 38 (.rd 39 (.rd 40 (.rd 41 (.rd 42 (.rd 43 (.rd 44 .done))))))))))))))))))))))))))))))))))))))))))))) zk zk ai zk hs25 ?_
    intro w29 hs30 hw31
    refine Zp 0 8 [(2,.cI (zP ab27 (ao28+(i*76))) .at_),(4,.gen [.slice ((l.getD i cU).qa) ((l.getD i cU).ql.length) ((l.getD i cU).qc)])] [(2,[.prop (0<=((i:Nat):Int)/\((i:Nat):Int)<((l.length:Nat):Int)),.prop (Value.pointer (some (Addr.add ⟨ab27,ao28,none⟩ (Int.toNat (i:Nat)*76)))=Value.pointer (some ⟨ab27,ao28+(i*76),none⟩))]),(4,[.cell ⟨ab27,ao28+(i*76)+43,none⟩ (.slice ((l.getD i cU).qa) ((l.getD i cU).ql.length) ((l.getD i cU).qc))])] (ak (aB za (aB (aS _ _ _) av)) (ak (aG (ag.cC (hw _ (hs30.drop 1)) (k:=i) zd (j:=43) zf zk) av) cW)) ?_
    rcases Bool.eq_false_or_eq_true (decide ((((l.getD i cU).ql.length:Nat):Int)>20)) with h32|h32
    ·refine di 47 true h32 ?_
     have h32':(((l.getD i cU).ql.length:Nat):Int)>20:=of_decide_eq_true h32
     refine En (aL (Dz ?_))
     refine aw.pick [84,0,1,5,6,8,9] (S':=[(84,.bool true),(0,zL ab27 ao28 l.length cl),(1,.int .u8 other),(5,zP dd5 0),(6,zP u18 0),(8,.int .i64 (k:Nat)),(9,.int .i64 (i:Nat))]) zk ?_
     exact aw.bD () (by first|rfl|(simp only [h32,Bool.not_true,Bool.not_false,Bool.true_or,Bool.false_or,Bool.true_and,Bool.false_and,Bool.or_true,Bool.or_false,Bool.and_true,Bool.and_false];done)|(simp [h32];done)) hs30
    ·refine di 47 false h32 ?_
     have h32':¬ ((((l.getD i cU).ql.length:Nat):Int)>20):=of_decide_eq_false h32
     refine gY (Hx 10 ((i:Nat):Int) ((l.length:Nat):Int) ab27 ao28 76 (Hg 14 (.gen [.string ((((l.getD i cU).rq).op).ky)]) [.cell ⟨ab27,ao28+(i*76)+3+2+1,none⟩ (.string ((((l.getD i cU).rq).op).ky))] (aG (ag.cC (hw _ (hs30.drop 1)) (k:=i) zd (j:=6) zf zk) av) (Hx 18 ((i:Nat):Int) ((l.length:Nat):Int) ab27 ao28 76 (Hg 22 (.gen [.string ((((l.getD i cU).rq).op).va)]) [.cell ⟨ab27,ao28+(i*76)+3+2+2,none⟩ (.string ((((l.getD i cU).rq).op).va))] (aG (ag.cC (hw _ (hs30.drop 1)) (k:=i) zd (j:=7) zf zk) av) (Hg 24 (.cI (.int .i64 (IntKind.i64.wrap ((((((l.getD i cU).rq).op).ky).size:Nat)+(((((l.getD i cU).rq).op).va).size:Nat)))) (.gen [])) [.prop (Value.int .i64 (IntKind.i64.wrap ((((((l.getD i cU).rq).op).ky).size:Nat)+(((((l.getD i cU).rq).op).va).size:Nat)))=Value.int .i64 (IntKind.i64.wrap ((((((l.getD i cU).rq).op).ky).size:Nat)+(((((l.getD i cU).rq).op).va).size:Nat))))] (aB rfl av) (Hx 27 ((i:Nat):Int) ((l.length:Nat):Int) ab27 ao28 76 (Hg 31 (.gen [.string ((((l.getD i cU).rq).op).ol)]) [.cell ⟨ab27,ao28+(i*76)+3+2+3,none⟩ (.string ((((l.getD i cU).rq).op).ol))] (aG (ag.cC (hw _ (hs30.drop 1)) (k:=i) zd (j:=8) zf zk) av) (Hg 33 (.cI (.int .i64 (IntKind.i64.wrap (IntKind.i64.wrap ((((((l.getD i cU).rq).op).ky).size:Nat)+(((((l.getD i cU).rq).op).va).size:Nat))+(((((l.getD i cU).rq).op).ol).size:Nat)))) (.gen [])) [.prop (Value.int .i64 (IntKind.i64.wrap ((IntKind.i64.wrap ((((((l.getD i cU).rq).op).ky).size:Nat)+(((((l.getD i cU).rq).op).va).size:Nat)))+(((((l.getD i cU).rq).op).ol).size:Nat)))=Value.int .i64 (IntKind.i64.wrap (IntKind.i64.wrap ((((((l.getD i cU).rq).op).ky).size:Nat)+(((((l.getD i cU).rq).op).va).size:Nat))+(((((l.getD i cU).rq).op).ol).size:Nat))))] (aB rfl av) (Hx 36 ((i:Nat):Int) ((l.length:Nat):Int) ab27 ao28 76 (Hg 40 (.gen [.string ((((l.getD i cU).rq).op).tx)]) [.cell ⟨ab27,ao28+(i*76)+3+2+4,none⟩ (.string ((((l.getD i cU).rq).op).tx))] (aG (ag.cC (hw _ (hs30.drop 1)) (k:=i) zd (j:=9) zf zk) av) (Hg 42 (.cI (.int .i64 (IntKind.i64.wrap (IntKind.i64.wrap (IntKind.i64.wrap ((((((l.getD i cU).rq).op).ky).size:Nat)+(((((l.getD i cU).rq).op).va).size:Nat))+(((((l.getD i cU).rq).op).ol).size:Nat))+(((((l.getD i cU).rq).op).tx).size:Nat)))) (.gen [])) [.prop (Value.int .i64 (IntKind.i64.wrap ((IntKind.i64.wrap (IntKind.i64.wrap ((((((l.getD i cU).rq).op).ky).size:Nat)+(((((l.getD i cU).rq).op).va).size:Nat))+(((((l.getD i cU).rq).op).ol).size:Nat)))+(((((l.getD i cU).rq).op).tx).size:Nat)))=Value.int .i64 (IntKind.i64.wrap (IntKind.i64.wrap (IntKind.i64.wrap ((((((l.getD i cU).rq).op).ky).size:Nat)+(((((l.getD i cU).rq).op).va).size:Nat))+(((((l.getD i cU).rq).op).ol).size:Nat))+(((((l.getD i cU).rq).op).tx).size:Nat))))] (aB rfl av) Hz))))))))))) ?_
     refine aw.pick [84,0,1,5,6,8,9] (S':=[(84,.bool (decide ((IntKind.i64.wrap (IntKind.i64.wrap (IntKind.i64.wrap ((((((l.getD i cU).rq).op).ky).size:Nat)+(((((l.getD i cU).rq).op).va).size:Nat))+(((((l.getD i cU).rq).op).ol).size:Nat))+(((((l.getD i cU).rq).op).tx).size:Nat)):Int)>1024))),(0,zL ab27 ao28 l.length cl),(1,.int .u8 other),(5,zP dd5 0),(6,zP u18 0),(8,.int .i64 (k:Nat)),(9,.int .i64 (i:Nat))]) zk ?_
     exact aw.bD () (by first|rfl|(simp only [h32,Bool.not_true,Bool.not_false,Bool.true_or,Bool.false_or,Bool.true_and,Bool.false_and,Bool.or_true,Bool.or_false,Bool.and_true,Bool.and_false];done)|(simp [h32];done)) hs30
   intro _ w33 hs34
   refine Zt (?_)
   refine cS (t:=(decide ((((l.getD i cU).ql.length:Nat):Int)>20)) || (decide ((IntKind.i64.wrap (IntKind.i64.wrap (IntKind.i64.wrap ((((((l.getD i cU).rq).op).ky).size:Nat)+(((((l.getD i cU).rq).op).va).size:Nat))+(((((l.getD i cU).rq).op).ol).size:Nat))+(((((l.getD i cU).rq).op).tx).size:Nat)):Int)>1024))) (λh35=>?_) (λh35=>?_)
   ·refine En (Ls (Lg [0] (Dz ?_)))
    refine aF Tryz.call4 (iR (λw h=>hTab w (h.drop 1)) hs34) ?_
    rintro v37 w38 ⟨rfl,hs36⟩
    refine Lo (aL (Lt (Le (Ly (Ll (Ly (uk (Ll (Ly (Dz ?_))))))))))
    refine bg (v:=.bool true) ?_
    have hs39:=hs36.dr 1
    exact⟨rfl,hs39⟩
   ·have h35a:(decide ((((l.getD i cU).ql.length:Nat):Int)>20))=false:=(Bool.or_eq_false_iff.1 h35).1
    have h35a':¬ ((((l.getD i cU).ql.length:Nat):Int)>20):=of_decide_eq_false h35a
    have h35b:(decide ((IntKind.i64.wrap (IntKind.i64.wrap (IntKind.i64.wrap ((((((l.getD i cU).rq).op).ky).size:Nat)+(((((l.getD i cU).rq).op).va).size:Nat))+(((((l.getD i cU).rq).op).ol).size:Nat))+(((((l.getD i cU).rq).op).tx).size:Nat)):Int)>1024))=false:=(Bool.or_eq_false_iff.1 h35).2
    have h35b':¬ ((IntKind.i64.wrap (IntKind.i64.wrap (IntKind.i64.wrap ((((((l.getD i cU).rq).op).ky).size:Nat)+(((((l.getD i cU).rq).op).va).size:Nat))+(((((l.getD i cU).rq).op).ol).size:Nat))+(((((l.getD i cU).rq).op).tx).size:Nat)):Int)>1024):=of_decide_eq_false h35b
    refine Zk (Zt (Zs (?_)))
    refine bL [5,9,10] (Hx 3 ((i:Nat):Int) ((l.length:Nat):Int) ab27 ao28 76 (Hg 4 (.agg (aK.cells (l.getD i cU))) [.prop (Array.size (aK.cells (l.getD i cU))=76),.cells ⟨ab27,ao28+(i*76),none⟩ (aK.cells (l.getD i cU))] (aB zk (dq (ag.lO (hw _ (hs34.drop 1)) (k:=i) zd (Nat.le_of_ble_eq_true zk) zk) av)) Hz)) ?_
    refine aF Tryz.call8 (Bi k (l.getD i cU) rs ug hbi.ok hbi.nn za (λw h=>hTab w (h.drop 0)) (λw h=>hbi.rows _ (h.drop 0)) hs34) ?_
    rintro v46 w47 (⟨rfl,hno40,hs41⟩|⟨tg42,ug43,rfl,hgd44,hs45⟩)
    ·refine Lo (Lu (Dz ?_))
     refine ar.alloc rfl rfl zk (z:=.agg (an.cells dm)) zk hs41 (cs:=an.cells dm) zk ?_
     intro b48 w49 hs50
     refine Lo (Dz ?_)
     refine Zv (b:=b48) (off:=0) (v:=.agg (an.cells dm)) (ti:=Tryz.t43) zk hs50 0 (cs':=an.cells dm) ?_
     intro w51 hs52
     refine Lo (aL (Lt (Ls (La (Lt (LF (Lk (Lm (Lt (Dz ?_))))))))))
     refine bj (cH 1 ((i:Nat)+1) Hz) ?_
     have hs53:=hs52.dr 1
     exact aw.back (i+1,k,rs,ug,some ⟨ab27,ao28,none⟩) [0,1,5,6,8,9] zk (by show l.length-(i+1)<l.length-i;omega) ⟨⟨za,show k<=i+1 from by omega,hw⟩,hs53⟩
    ·refine Lo (Lu (Dz ?_))
     refine ar.alloc rfl rfl zk (z:=.agg (an.cells dm)) zk hs45 (cs:=an.cells dm) zk ?_
     intro b54 w55 hs56
     refine Lo (Dz ?_)
     refine Zv (b:=b54) (off:=0) (v:=.agg (an.cells (⟨2,((k:Nat)+1),aA k,l.getD i cU,tg42⟩:an))) (ti:=Tryz.t43) zk hs56 0 (cs':=an.cells (⟨2,((k:Nat)+1),aA k,l.getD i cU,tg42⟩:an)) ?_
     intro w57 hs58
     refine Lo (aL (Lt (Ls (La (Lt (LT (Ls (Dz ?_))))))))
     refine bj (cH 1 ((k:Nat)+1) Hz) ?_
     refine Zt (Zs (?_))
     refine bL [1] (du 0 0 0 121 (an.cells (⟨2,((k:Nat)+1),aA k,l.getD i cU,tg42⟩:an)) hs58 Hz) ?_
     refine aF Tryz.call9 (tu (⟨2,((k:Nat)+1),aA k,l.getD i cU,tg42⟩:an) hgd44.ok (λw h=>hbi.rows _ (h.drop 2)) hs58) ?_
     rintro v60 w61 ⟨rfl,hs59⟩
     refine Lo (aL (Lt (Dz ?_)))
     refine cS (t:=!(fl (⟨2,((k:Nat)+1),aA k,l.getD i cU,tg42⟩:an))) (λh62=>?_) (λh62=>?_)
     ·have h62n:(fl (⟨2,((k:Nat)+1),aA k,l.getD i cU,tg42⟩:an))=false:=kL h62
      exfalso;have hz:=h62;rw [hgd44.right] at hz;cases hz
     ·have h62n:(fl (⟨2,((k:Nat)+1),aA k,l.getD i cU,tg42⟩:an))=true:=km h62
      refine Zk (Zm (Zt (?_)))
      refine bj (cH 1 ((i:Nat)+1) Hz) ?_
      have hs63:=hs59.dr 1
      exact aw.back (i+1,(k+1),(rs++[fI (⟨2,((k:Nat)+1),aA k,l.getD i cU,tg42⟩:an)]),ug43,some ⟨ab27,ao28,none⟩) [0,1,5,6,8,9] zk (by show l.length-(i+1)<l.length-i;omega) ⟨⟨za,show(k+1)<=i+1 from by omega,hw⟩,hs63⟩
  ·refine Zx (aw.da (aw.dc (aw.jR (Zt (Zs (?_))))))
   refine bj (cH 1 other (Hg 2 (.div (other % 5)) [.prop (IntKind.i64=IntKind.i64/\(5:Int)≠0/\Int.tmod other 5=other % 5)] (aB ⟨rfl,zf,Int.tmod_eq_emod_of_nonneg (by first|omega|exact Int.natCast_nonneg _)⟩ av) (cH 3 (1+(other % 5)) Hz))) ?_
   refine Zt (Zs (?_))
   obtain⟨r,ub,cb,bk,rg,wq,c,ao,co,ab,bc,bo,D,dg⟩:=ug
   obtain⟨hd0,hs640⟩:=Bd.open hs25
   have hs64:St w0 (ah u18 #[.int .i64 5,.int .i64 2,zP r 0,zP ub 0,zP bk 0,.int .i64 0] 66::RP r 2 k rg::ah ub #[zP cb 0,.int .i64 2,.int .u64 (k:Nat),.slice ab bo.length bc] 126::ah cb #[zP dd5 0,.int .i64 (0:Nat),.slice ao ((dy k bo).length) co,.int .i64 (wq:Nat),.bool false] 197::Sl ab bc 5 1 af bo::ah bk #[zP dd5 0,.int .i64 (cG 40 rs:Nat),.int .i64 (8212:Nat),.int .u64 1,.int .i64 (k:Nat),.bool false] 138::DK dd5 D 0 dg::L) w23:=hs640
   have hd:oT D wq c bo k rs:=hd0
   refine En (Lg [2,6,7] (Lu (Dz ?_)))
   have hs65:=hs64.pl 6
   refine aF Tryz.call10 (ui (1+(other % 5)) k rs wq c bo za hd (λw h=>hTab w (h.drop 6)) hs65) ?_
   rintro v78 w79 ⟨kn66,kn67,kn68,kn69,kn70,kn71,kn72,kn73,kn74,kn75,kn76,rfl,hs77⟩
   refine Lo (Lu (Dz ?_))
   refine ar.alloc rfl rfl zk (z:=.agg nC) zk hs77 (cs:=nC) zk ?_
   intro b80 w81 hs82
   refine Lo (Dz ?_)
   refine Zv (b:=b80) (off:=0) (v:=.agg #[.int .u8 (gn (1+(other % 5)) k),.int .i64 0,.int .u64 (k:Nat),.int .u64 1,.int .i64 (k:Nat),.int .i64 (cG 40 rs:Nat),.int .i64 0,.int .u64 kn66,.int .u64 kn67,.int .u64 kn68,.int .u64 kn69,.int .u64 kn70,.int .u64 kn71,.int .u64 kn72,.int .u64 kn73,.int .u64 kn74,.int .u64 kn75,.int .u64 kn76]) (ti:=Tryz.t49) zk hs82 0 (cs':=#[.int .u8 (gn (1+(other % 5)) k),.int .i64 0,.int .u64 (k:Nat),.int .u64 1,.int .i64 (k:Nat),.int .i64 (cG 40 rs:Nat),.int .i64 0,.int .u64 kn66,.int .u64 kn67,.int .u64 kn68,.int .u64 kn69,.int .u64 kn70,.int .u64 kn71,.int .u64 kn72,.int .u64 kn73,.int .u64 kn74,.int .u64 kn75,.int .u64 kn76]) ?_
   intro w83 hs84
   refine Lo (aL (Lt (Ls (Ls (Dz ?_)))))
   refine aE.join (T:=Unit) (E:=λ_=>[(126,.bool ((((k:Nat):Int) != (k:Nat)) || (((k:Nat):Int) != (k:Nat)))),(13,zP b80 0),(12,.int .i64 (1+(other % 5))),(8,.int .i64 (k:Nat))]) (F:=λ_ w=>St w0 (ah b80 #[.int .u8 (gn (1+(other % 5)) k),.int .i64 0,.int .u64 (k:Nat),.int .u64 1,.int .i64 (k:Nat),.int .i64 (cG 40 rs:Nat),.int .i64 0,.int .u64 kn66,.int .u64 kn67,.int .u64 kn68,.int .u64 kn69,.int .u64 kn70,.int .u64 kn71,.int .u64 kn72,.int .u64 kn73,.int .u64 kn74,.int .u64 kn75,.int .u64 kn76] 49::DK dd5 D 0 dg::ah u18 #[.int .i64 5,.int .i64 2,zP r 0,zP ub 0,zP bk 0,.int .i64 0] 66::RP r 2 k rg::ah ub #[zP cb 0,.int .i64 2,.int .u64 (k:Nat),.slice ab bo.length bc] 126::ah cb #[zP dd5 0,.int .i64 (0:Nat),.slice ao ((dy k bo).length) co,.int .i64 (wq:Nat),.bool false] 197::Sl ab bc 5 1 af bo::ah bk #[zP dd5 0,.int .i64 (cG 40 rs:Nat),.int .i64 (8212:Nat),.int .u64 1,.int .i64 (k:Nat),.bool false] 138::L) w) ?_ ?_
   ·refine Zg [] ?_
    refine Zp 0 9 [(4,.gen [.int .i64 (k:Nat)])] [(4,[.cell ⟨b80,4,none⟩ (.int .i64 (k:Nat))])] (ak (aG (hs84.cell 0 rfl zk) av) cW) ?_
    rcases Bool.eq_false_or_eq_true (((k:Nat):Int) != (k:Nat)) with h85|h85
    ·refine di 120 true h85 ?_
     have h85':¬ (((k:Nat):Int)=(k:Nat)):=jb h85
     exfalso;have hz:=h85;simp at hz
    ·refine di 120 false h85 ?_
     have h85':((k:Nat):Int)=(k:Nat):=iF h85
     refine gY (Hl 10 0 2 hs84 (qU 12 (k:Nat) Hz)) ?_
     refine aw.pick [126,13,12,8] (S':=[(126,.bool (((k:Nat):Int) != (k:Nat))),(13,zP b80 0),(12,.int .i64 (1+(other % 5))),(8,.int .i64 (k:Nat))]) zk ?_
     exact aw.bD () (by first|rfl|(simp only [h85,Bool.not_true,Bool.not_false,Bool.true_or,Bool.false_or,Bool.true_and,Bool.false_and,Bool.or_true,Bool.or_false,Bool.and_true,Bool.and_false];done)|(simp [h85];done)) hs84
   intro _ w86 hs87
   refine Zt (?_)
   refine cS (t:=(((k:Nat):Int) != (k:Nat)) || (((k:Nat):Int) != (k:Nat))) (λh88=>?_) (λh88=>?_)
   ·exfalso;have hz:=h88;simp at hz
   ·have h88a:(((k:Nat):Int) != (k:Nat))=false:=(Bool.or_eq_false_iff.1 h88).1
    have h88a':((k:Nat):Int)=(k:Nat):=iF h88a
    have h88b:(((k:Nat):Int) != (k:Nat))=false:=(Bool.or_eq_false_iff.1 h88).2
    have h88b':((k:Nat):Int)=(k:Nat):=iF h88b
    refine En (Lk (Lt (Ls (Lg [11] (Dz ?_)))))
    refine Zp 0 6 [(1,.gen [.int .u8 (gn (1+(other % 5)) k)])] [(1,[.cell ⟨b80,0,none⟩ (.int .u8 (gn (1+(other % 5)) k))])] (ak (aG (hs87.cell 0 rfl zk) av) cW) ?_
    rcases Bool.eq_false_or_eq_true (((1+(other % 5)):Int) == 2) with h89|h89
    ·refine di 132 true h89 ?_
     have h89':(1+(other % 5):Int)=2:=dt h89
     refine En (Lu (Dz ?_))
     rcases Bool.eq_false_or_eq_true ((((gn (1+(other % 5)) k):Int) == 1) == true) with h90|h90
     ·refine di 137 true h90 ?_
      refine aF Tryz.call4 (iR (λw h=>hTab w (h.drop 8)) hs87) ?_
      rintro v92 w93 ⟨rfl,hs91⟩
      refine Lo (aL (Lt (Le (Dz ?_))))
      refine bg (v:=.bool true) ?_
      have hs94:=hs91.dr 8
      exact⟨rfl,hs94⟩
     ·refine di 137 false h90 ?_
      exfalso;have hz:=h90;rw [xC,h89] at hz;simp at hz
    ·refine di 132 false h89 ?_
     have h89':¬ ((1+(other % 5):Int)=2):=dH h89
     refine En (Lu (Dz ?_))
     rcases Bool.eq_false_or_eq_true ((((gn (1+(other % 5)) k):Int) == 1) == (((k:Nat):Int) == 0)) with h95|h95
     ·refine di 137 true h95 ?_
      refine aF Tryz.call4 (iR (λw h=>hTab w (h.drop 8)) hs87) ?_
      rintro v97 w98 ⟨rfl,hs96⟩
      refine Lo (aL (Lt (Le (Dz ?_))))
      refine bg (v:=.bool true) ?_
      have hs99:=hs96.dr 8
      exact⟨rfl,hs99⟩
     ·refine di 137 false h95 ?_
      exfalso;have hz:=h95;rw [xC,h89] at hz;simp at hz
end Go.Proofs.YtdaohdehpmgfdaaGreatDoor
namespace Go.Proofs.YtdaohdehpmgfdaaGreatDoor
open Go.RowKit Go.Sx Go.Deep
set_option linter.unusedVariables false
set_option linter.unusedSimpArgs false
set_option linter.unnecessarySimpa false
set_option maxRecDepth 100000
theorem CA {T:TypeId->Value->Prop}{k:IntKind}{ks:List GK}:∀ (n:Nat){vs:List Value},ez T (List.replicate n (.int k)++ks) vs->∃ (l:List Int) (rest:List Value),l.length=n/\(∀ z∈l,(Lit.int k z).wf=true)/\vs=l.map (Value.int k)++rest/\ez T ks rest
 | 0,vs,h=>⟨[],vs,rfl,λz hz=>(by cases hz),rfl,h⟩
 | n+1,vs,h=>by
  obtain⟨_,r,rfl,⟨a,rfl,w⟩,g⟩:=cj (show ez T (GK.int k::(List.replicate n (.int k)++ks)) vs from h)
  obtain⟨l,rest,h1,h2,rfl,h3⟩:=CA n g
  refine⟨a::l,rest,by rw [List.length_cons,h1],λz hz=>?_,rfl,h3⟩
  rcases List.mem_cons.1 hz with rfl|hz
  ·exact w
  ·exact h2 z hz
section
variable {T : TypeId -> Value -> Prop} {ks : List GK} {vs : List Value} {W : World}
theorem aO.of (h:ez T (List.replicate 32 (.int .u8)++ks) vs):∃ (d:aO) (rest:List Value),vs=(aO.cells d).toList++rest/\(∀ z∈d.toList,0<=z/\z<256)/\ez T ks rest:=by
 obtain⟨l,rest,h1,h2,rfl,h3⟩:=CA 32 h
 refine⟨⟨l.toArray,by simpa using h1⟩,rest,?_,λz hz=>?_,h3⟩
 ·rw [aO.BA];simp
 ·have:=wf_u8 (h2 z (by simpa using hz));omega
abbrev EF:List GK:=[.int .u8,.str,.str,.str,.str,.int .u64]
abbrev EG:List GK:=.int .i64::.int .u64::(EF++List.replicate 32 (.int .u8))
abbrev EH:List GK:=.int .u8::.int .u64::.int .u64::(EG++(.sl 37::List.replicate 32 (.int .u8)))
theorem pk.of (h:ez T (EF++ks) vs):∃ (o:pk) (rest:List Value),vs=(pk.cells o).toList++rest/\((0<=o.kd/\o.kd<=255)/\(0<=o.am/\o.am<=18446744073709551615))/\ez T ks rest:=by
 obtain⟨_,r0,rfl,⟨n0,rfl,w0⟩,g1⟩:=cj h
 obtain⟨_,r1,rfl,⟨n1,rfl,-⟩,g2⟩:=cj g1
 obtain⟨_,r2,rfl,⟨n2,rfl,-⟩,g3⟩:=cj g2
 obtain⟨_,r3,rfl,⟨n3,rfl,-⟩,g4⟩:=cj g3
 obtain⟨_,r4,rfl,⟨n4,rfl,-⟩,g5⟩:=cj g4
 obtain⟨_,r5,rfl,⟨n5,rfl,w5⟩,g6⟩:=cj g5
 exact⟨⟨n0,n1,n2,n3,n4,n5⟩,r5,rfl,⟨wf_u8 w0,wf_u64 w5⟩,g6⟩
theorem dM.of (h:ez T (EG++ks) vs):∃ (o:dM) (rest:List Value),vs=(dM.cells o).toList++rest/\sM o/\ez T ks rest:=by
 replace h:ez T (.int .i64::.int .u64::(EF++(List.replicate 32 (.int .u8)++ks))) vs:=h
 obtain⟨_,r0,rfl,⟨n0,rfl,w0⟩,g1⟩:=cj h
 obtain⟨_,r1,rfl,⟨n1,rfl,w1⟩,g2⟩:=cj g1
 obtain⟨op,r2,rfl,w2,g3⟩:=pk.of g2
 obtain⟨d,r3,rfl,w3,g4⟩:=aO.of g3
 exact⟨⟨n0,n1,op,d⟩,r3,rfl,⟨wf_i64 w0,wf_u64 w1,w2.1,w2.2,w3⟩,g4⟩
def D6 (W:World) (T:TypeId->Value->Prop):Prop:=∀ ad n c,T 37 (.slice ad n c)->(ad=none->c=0)/\∃ l:List aT,l.length=n/\l.length<=9223372036854775807/\(∀ p∈l,(-9223372036854775808<=p.rp/\p.rp<=9223372036854775807)/\(0<=p.nm/\p.nm<=18446744073709551615))/\ag W ad l.length 2 (λk=>aT.cells (l.getD k aR))
theorem aK.of (hP:D6 W T) (h:ez T (EH++ks) vs):∃ (o:aK) (rest:List Value),vs=(aK.cells o).toList++rest/\(eI o/\ag W o.qa o.ql.length 2 (λk=>aT.cells (o.ql.getD k aR))/\(o.qa=none->o.qc=0))/\ez T ks rest:=by
 replace h:ez T (.int .u8::.int .u64::.int .u64::(EG++(.sl 37::(List.replicate 32 (.int .u8)++ks)))) vs:=h
 obtain⟨_,r0,rfl,⟨n0,rfl,w0⟩,g1⟩:=cj h
 obtain⟨_,r1,rfl,⟨n1,rfl,w1⟩,g2⟩:=cj g1
 obtain⟨_,r2,rfl,⟨n2,rfl,w2⟩,g3⟩:=cj g2
 obtain⟨rq,r3,rfl,w3,g4⟩:=dM.of g3
 obtain⟨_,r4,rfl,⟨ad,n,c,rfl,t4⟩,g5⟩:=cj g4
 obtain⟨h0,l,rfl,h1,h2,h3⟩:=hP _ _ _ t4
 obtain⟨d,r5,rfl,w5,g6⟩:=aO.of g5
 exact⟨⟨n0,n1,n2,rq,ad,c,l,d⟩,r5,rfl,⟨⟨wf_u8 w0,wf_u64 w1,wf_u64 w2,w3,h2,w5,h1⟩,h3,h0⟩,g6⟩
end
section
variable {H : Type} {enc : TypeId × Value -> H} {w : World} {base : Nat} {spare : Nat -> Bool} {held : Bool}
theorem B9:D6 w (Dl enc Tryz.prog w base spare held):=λad n c ⟨d,ps,h⟩=>by
 have h0:ad=none->c=0:=λe=>by
  subst e
  obtain⟨fuel,hf⟩:=h
  rcases open_slice Tryz.underlying37 hf with⟨hcs,_⟩|⟨a,len,cap,mm,nn,D,Pl,hcs,_⟩
  ·simp [Value.cells] at hcs;exact hcs.2
  ·simp [Value.cells] at hcs
 obtain⟨hn,cell,hr,hc⟩:=oV (m:=8) (ks:=[.int .i64,.int .u64]) Tryz.underlying37 zk zk zf h
 obtain⟨l,hl,hp,hw⟩:=kb aR (f:=aT.cells) (λp=>(-9223372036854775808<=p.rp/\p.rp<=9223372036854775807)/\(0<=p.nm/\p.nm<=18446744073709551615)) hr (λk hk=>by
  have g:=hc k hk
  generalize cell k=cs at g ⊢
  obtain⟨vs⟩:=cs
  obtain⟨_,r0,rfl,⟨n0,rfl,w0⟩,g1⟩:=cj g
  obtain⟨_,r1,rfl,⟨n1,rfl,w1⟩,g2⟩:=cj g1
  obtain rfl:=qJ g2
  exact⟨⟨n0,n1⟩,⟨wf_i64 w0,wf_u64 w1⟩,rfl⟩)
 exact⟨h0,l,hl,by rw [hl];exact hn,hp,hw⟩
end
section
variable {H : Type} {enc : TypeId × Value -> H} {w : World} {base : Nat} {spare : Nat -> Bool} {held : Bool}
def Dg (w:World) (b:aK):Prop:=eI b/\ag w b.qa b.ql.length 2 (λk=>aT.cells (b.ql.getD k aR))/\(b.qa=none->b.qc=0)
theorem yZ {ad:Option Addr}{n c:Nat}{d:DataW H}{ps:List MemPlace}(h:DataW.Trod enc Tryz.prog w base spare held 22 (.slice ad n c) d ps):∃ l:List aK,l.length=n/\(∀ b∈l,Dg w b)/\ag w ad l.length 76 (λk=>aK.cells (l.getD k cU)):=by
 obtain⟨-,cell,hr,hc⟩:=oV (m:=8) (ks:=EH) Tryz.underlying22 zk zk zf h
 obtain⟨l,hl,hp,hw⟩:=kb cU (f:=aK.cells) (Dg w) hr (λk hk=>by
  have g:=hc k hk
  generalize cell k=cs at g ⊢
  obtain⟨vs⟩:=cs
  rw [<- List.append_nil EH] at g
  obtain⟨m,r,rfl,w1,g1⟩:=aK.of B9 g
  obtain rfl:=qJ g1
  exact⟨m,w1,rfl⟩)
 exact⟨l,hl,hp,hw⟩
end
theorem St.EI {W w:World}{L:List aI}(hs:St W L w){j:Nat}(hj:L[j]?=some (sq W)) (hT:cQ W):cQ w:=ag.base hT (λk _=>aQ.size _) hs j hj
theorem rX (W:World) (hT:cQ W){other:Int}(ho:0<=other/\other<=255){ad:Option Addr}{c:Nat}(l:List aK) (hl:∀ b∈l,Dg W b) (r:ag W ad l.length 76 (λk=>aK.cells (l.getD k cU))) :
 Calls Tryz.prog 3 #[.slice ad l.length c,.int .u8 other] W (aZ λrv w'=>rv=.bool true/\Below W.heap.size W w'):=by
 refine Calls.ret (Bk (w0:=W) (L:=[sq W]) l other (λb hb=>⟨(hl b hb).1,(hl b hb).2.2,λw h=>(hl b hb).2.1.base (λk _=>mX.size _) h 0 rfl⟩) ho (λw h=>St.EI h (j:=0) rfl hT) (λw h=>r.base (λk _=>Eu.size _) h 0 rfl) (St.start W)) ?_
 rintro rv w' ⟨rfl,h⟩
 exact⟨rfl,h.below 0 rfl⟩
end Go.Proofs.YtdaohdehpmgfdaaGreatDoor
