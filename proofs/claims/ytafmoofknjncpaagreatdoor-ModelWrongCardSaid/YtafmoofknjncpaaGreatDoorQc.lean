/- A part of the proof that ModelWrong holds: its theorems stand as they are typed. -/
import Derived.Test.YtafmoofknjncpaaGreatDoorR
import Derived.Test.YtafmoofknjncpaaGreatDoorQa
set_option linter.all false
set_option maxRecDepth 100000
set_option maxHeartbeats 8000000
namespace Go.Proofs.YtafmoofknjncpaaGreatDoor
open Tryz Go.RowKit Go.Shelf
def zR:Rx:=.node ⟨2,0,288230376151711744,0,0,0,0⟩ []
def No:Rx:=.node ⟨3,0,0,0,0,0,0⟩ [zR,zR]
theorem Aj6:Iy ⟨2,0,288230376151711744,0,0,0,0⟩ []:=.cls _ rfl (by simp[Cc.blank]) uL
theorem Aj7:Cd zR:=Cd.node.2 ⟨Aj6,yF⟩
theorem Rm:Cd No:=Cd.node.2 ⟨.cat _ _ rfl (by simp[Cc.blank]) uL yH (by
 intro x A;simp only[Zbc,Zbe,Zic,or_self]at A;subst A;simp[zR,Tree.Cx,Tree.Ak]),by
 intro x A;simp only[Zbc,Zbe,Zic,or_self]at A;subst A;exact Aj7⟩
theorem Aj5:F3 No:=⟨Rm,yH,yH,yH⟩
theorem Aq1 (w:zN) (S:zT):B2 w S zR [.int .u8 2,zI,.int .u64 288230376151711744,zI,zI,zE,zE,zH]:=by
 simp only[zR,Tree.A6];exact⟨none,0,rfl,Zab _,.inl trivial⟩
theorem Anh (b o c:Nat) (w:zN) (h:w.cell? ⟨b,o,none⟩=some (.int .u8 122)):
  Calls prog 202 #[.slice (some ⟨b,o,none⟩) 1 c] w fun e w'=>e=.returned (.agg #[zI,.int .u64 288230376151711744,zI,zI])/\Below w w w':=by
 have Y:b<w:=by
  simp only[World.cell?]at h;cases H:w.heap[b]? with
  | none=>simp[H]at h
  | some x=>exact(Zbx.1 H).1
 obtain⟨T,D,J,O,G,a0⟩:=Fk w [zI,zI,zI,zI] [zI,zI,zI,zI] 40 40
 have M:=Zaa D
 have a4:=Zaa J
 have W:=Zaa O
 have h1:T.cell? ⟨b,o,none⟩=some (.int .u8 122):=(Zaw (G.block b Y)).trans h
 have H1:=Zaa h1
 have hand:bits BinOp.and IntKind.u8 122 63=58:=yG
 have a8:bits BinOp.or IntKind.u64 0 288230376151711744=288230376151711744:=yG
 clear D J O a0 h h1
 go_enter func202,ntmps202
 go_upto_region 2 with fail
 have D:=M.out
 rw[D]
 clear D M
 go_wp2_with fail
 go_loopw [8] (fun v wr=>∃j:Nat,j<=1/\v=.int .i64 j/\wr.cell? ⟨b,o,none⟩=some (.int .u8 122)/\Ar wr w 40 [zI,zI,zI,zI]/\Ar wr (w+1) 40 [zI,.int .u64 (if j=0 then 0 else 288230376151711744),zI,zI]/\Below w w wr) (fun v _=>1 - (intOf v).toNat)
 case atStart=>exact⟨0,Zap _,rfl,H1.out,a4.out,W.out,G⟩
 case round=>
  obtain⟨j,a5,rfl,V,F,A,U⟩:=hrel;rcases(show j=0\/j=1 from yE)with rfl | rfl
  ·rw[if_pos rfl]at A
   have a1:=A.cell (j:=1) rfl;have a7:=A.frozen 1;go_wp2_with fail
   go_roundw
   case rel=>
    refine⟨1,Zab _,yK,?_,F.Em yE 1 _,A.set 1 (.int .u64 288230376151711744),Ek U _ _ _ U.size yE⟩;have:=(As wr (w+1) 1 (.int .u64 288230376151711744)).block b vL yJ;exact(Zaw this).trans V
   case measure=>simp[intOf]
  rw[if_neg yH]at A;have a9:=A.cell (j:=0) rfl;have a1:=A.cell (j:=1) rfl;have a6:=A.cell (j:=2) rfl;have aa:=A.cell (j:=3) rfl;have a2:=Zaa F.there;go_wp2_with (refine Zil rfl 40 _ _ rfl w.heap.size 0 #[zI,.int .u64 288230376151711744,zI,zI] rfl rfl a2.out yG yL ?_)
  have a3:=F.fill (vs:=[zI,.int .u64 288230376151711744,zI,zI]) rfl;exact Zho (v:=.agg #[zI,.int .u64 288230376151711744,zI,zI]) (Aq rfl _ _ w 0 [zI,.int .u64 288230376151711744,zI,zI] rfl a3.range yG yG) rfl ⟨rfl,Cn U _ _ _ U.size (Zab _)⟩
theorem Aos (w:zN):
  Calls prog 201 #[.agg #[zI,.int .u64 288230376151711744,zI,zI]] w fun e w'=>e=.returned (.agg #[.int .u8 2,zI,.int .u64 288230376151711744,zI,zI,zE,zE,zH])/\Below w w w':=by
 obtain⟨T,A,fi,D,F,H⟩:=Fk w [zI,.int .u64 288230376151711744,zI,zI] zZ 40 43
 have G:=Zaa A
 refine Z3Q ?_
 intro dg dm cd et
 have J:=Zaa D.there
 have O:=Zaa D
 have U:∀w:World,(Op.equalIn 10000 40 (.agg #[zI,.int .u64 288230376151711744,zI,zI]) (.agg #[zI,zI,zI,zI])).run prog w=.ok false w:=fun w=>Mv w 0 288230376151711744 0 0 0 0 0 0
 clear A fi D H
 go_enter func201,ntmps201
 go_upto_region 1 with fail
 have A:=G.out
 rw[A]
 clear A G
 go_wp2_with (refine Zil rfl 43 _ _ rfl (w.heap.size+1) 0 #[.int .u8 2,zI,.int .u64 288230376151711744,zI,zI,zE,zE,zH] rfl rfl J.out yG yL ?_)
 have M:=O.out.fill (vs:=[.int .u8 2,zI,.int .u64 288230376151711744,zI,zI,zE,zE,zH]) rfl
 exact Zho (v:=.agg #[.int .u8 2,zI,.int .u64 288230376151711744,zI,zI,zE,zE,zH]) (Aq rfl _ _ (w+1) 0 [.int .u8 2,zI,.int .u64 288230376151711744,zI,zI,zE,zE,zH] rfl M.range yG yG) rfl ⟨rfl,Cn F _ _ _ F.size yE⟩
theorem Aqn (w:zN):
  Calls prog 158 #[.int .u8 122] w fun e w'=>e=.returned (.agg #[.int .u8 2,zI,.int .u64 288230376151711744,zI,zI,zE,zE,zH])/\Below w w w':=by
 obtain⟨G,A,F,H,a5⟩:=Bx w zZ 43
 obtain⟨a1,D,T,J,a8⟩:=Bx G [.int .u8 122] 5
 have V:=Zaa A
 have a9:=Zaa D
 have Y:=Zaa (F.below J F.lt)
 have W:=H.trans (J.mono H.size)
 have c3:=Zaa (Anh G 0 1 a1 (T.cell (j:=0) rfl))
 have a3:=Zaa Aos
 rw[a5]at c3
 clear A D F T a8
 go_enter func158,ntmps158
 go_upto_region 1 with fail
 have A:=V.out
 rw[A]
 clear A V
 have D:=a9.out
 go_wp2_with fail
 refine Z0P ?_
 rintro e a2 ⟨rfl,M⟩
 go_wp2_with fail
 refine(a3.out a2).mono ?_
 rintro e aa ⟨rfl,a4⟩
 have a0:=M.trans (a4.mono M.size)
 have O:=W.trans (a0.mono W.size)
 have U:=Y.out.below a0 Y.out.lt
 have a6:=Zaa U.there
 clear D
 go_wp2_with (refine Zil rfl 43 _ _ rfl w.heap.size 0 #[.int .u8 2,zI,.int .u64 288230376151711744,zI,zI,zE,zE,zH] rfl rfl a6.out yG yL ?_)
 have a7:=U.fill (vs:=[.int .u8 2,zI,.int .u64 288230376151711744,zI,zI,zE,zE,zH]) rfl
 exact Zho (v:=.agg #[.int .u8 2,zI,.int .u64 288230376151711744,zI,zI,zE,zE,zH]) (Aq rfl _ _ w 0 [.int .u8 2,zI,.int .u64 288230376151711744,zI,zI,zE,zE,zH] rfl a7.range yG yG) rfl ⟨rfl,Cn O _ _ _ O.size (Zab _)⟩
theorem Aem (t:Rx) (ar:Cd t) (aD:t.size<=1000) (cs:zP) (w:zN) (n:Nat) (a0:n<=w) (a1:Bo w n t cs):
  Calls prog 203 #[.agg cs.toArray] w fun e w'=>∃a4,e=.returned (.agg a4.toArray)/\Ey w' w t a4/\Below w w w':=by
 have ai:=a1
 obtain⟨az,s0,s1,s2,s3,mn,mx,av,aA,au,rfl⟩:=Bo.eight a1
 obtain⟨am,G,fi,aj,D,ad⟩:=Fk w [az,s0,s1,s2,s3,mn,mx,.slice av aA au] zZ 43 43
 have ae:=Zaa G
 refine Z3Q ?_
 intro dg dm cd et
 have a9:=fi.cell (j:=4) rfl
 have a6:=fi.cell (j:=5) rfl
 have a3:=fi.cell (j:=6) rfl
 have aa:=fi.cell (j:=7) rfl
 have ak:=Zaa aj
 have af:=Zaa fi
 have a8:=ai.below (D.mono a0)
 have aB:=Zaa (Ae2 t _ am n yE (Zag a0 D.size) a8 ar)
 have aC:=Zaa a8
 have aE:=Zaa ad
 clear G fi aj ad a1 ai a8
 go_enter func203,ntmps203
 go_upto_region 1 with fail
 have G:=ae.out
 rw[G]
 clear G ae
 go_wp2_with fail
 refine aB.out.mono ?_
 rintro e ab ⟨rfl,F⟩
 clear dg dm cd et a9 a6 a3 aa
 have A:=af.out.below F af.out.lt
 have a5:=Zaa (ak.out.below F ak.out.lt)
 have dg:=A.cell (j:=0) rfl
 have dm:=A.cell (j:=1) rfl
 have cd:=A.cell (j:=2) rfl
 have et:=A.cell (j:=3) rfl
 have a9:=A.cell (j:=4) rfl
 have a6:=A.cell (j:=5) rfl
 have a3:=A.cell (j:=6) rfl
 have aa:=A.cell (j:=7) rfl
 have aq:=Zaa (Aap t _ ab n yE (Zag a0 (Zag D.size F.size)) (aC.out.below (F.mono (Zag a0 D.size))))
 have a2:=D.trans (F.mono D.size)
 clear A
 go_wp2_with fail
 refine aq.out.mono ?_
 rintro e an ⟨a4,rfl,a7,ac⟩
 have ag:=a7
 obtain⟨H,q1,J,T,U,M,O,V,Y,W,rfl⟩:=Bo.eight a7.in
 have al:=a5.out.below ac a5.out.lt
 have ap:=Zaa al.there
 have ah:=a2.trans (ac.mono a2.size)
 have ay:=Zaa ag
 clear a7 ag dg dm cd et a9 a6 a3 aa
 go_wp2_with (refine Zil rfl 43 _ _ rfl (w.heap.size+1) 0 #[H,q1,J,T,U,M,O,.slice V Y W] rfl rfl ap.out yG yL ?_)
 have aw:=al.fill (vs:=[H,q1,J,T,U,M,O,.slice V Y W]) rfl
 have ao:=Ao an (w+1) [H,q1,J,T,U,M,O,.slice V Y W] 0
 have ax:w.heap.size+1<ab:=a5.out.lt
 exact Zho (v:=.agg #[H,q1,J,T,U,M,O,.slice V Y W]) (Aq rfl _ _ (w+1) 0 [H,q1,J,T,U,M,O,.slice V Y W] rfl aw.range yG yG) rfl
  ⟨_,rfl,Ey.lower (Ey.grown ay.out ax ao) (by have:=a2.size;omega),Cn ah _ _ _ ah.size yE⟩
theorem Agz (s:List Rx) (h2:2<=s.length) (ah:Cd (.node ⟨3,0,0,0,0,0,0⟩ s)) (ae:(Tree.node (L:=Cc) ⟨3,0,0,0,0,0,0⟩ s).size<=1000) (a6:zO) (a5:Nat) (w:zN) (n:Nat) (a2:n<=w)
  (a4:Bo w n (.node ⟨3,0,0,0,0,0,0⟩ s) [.int .u8 3,zI,zI,zI,zI,zE,zE,.slice a6 s a5]):
  Calls prog 159 #[.int .u8 3,.slice a6 s a5,.agg #[.int .u8 1,zI,zI,zI,zI,zE,zE,zH]] w fun e w'=>∃W,e=.returned (.agg W.toArray)/\Ey w' w (.node ⟨3,0,0,0,0,0,0⟩ s) W/\Below w w w':=by
 obtain⟨a1,D,ai,a0,A,ag⟩:=Fk w [.int .u8 1,zI,zI,zI,zI,zE,zE,zH] zZ 43 43
 have a7:=Zaa D
 have am:=Zaa a0
 have ak:=Zaa (Aem _ ah ae _ a1 n (Zag a2 A.size) (a4.below (A.mono a2)))
 have an:((s.length:Int)==0)=false:=beq_false_of_ne yE
 have ao:((s.length:Int)==1)=false:=beq_false_of_ne yE
 have aa:w.heap.size+1<a1:=a0.lt
 clear D ai a0 a4 ag
 go_enter func159,ntmps159
 go_upto_region 1 with fail
 have D:=a7.out
 rw[D]
 clear D a7
 go_wp2_with fail
 refine ak.out.mono ?_
 rintro e ac ⟨W,rfl,Y,a3⟩
 have a8:=Y
 obtain⟨F,q1,G,M,O,H,J,T,V,U,rfl⟩:=Bo.eight Y.in
 have ab:=am.out.below a3 aa
 have af:=Zaa ab.there
 have a9:=A.trans (a3.mono A.size)
 have al:=Zaa a8
 clear Y a8
 go_wp2_with (refine Zil rfl 43 _ _ rfl (w.heap.size+1) 0 #[F,q1,G,M,O,H,J,.slice T V U] rfl rfl af.out yG yL ?_)
 have aj:=ab.fill (vs:=[F,q1,G,M,O,H,J,.slice T V U]) rfl
 have ad:=Ao ac (w+1) [F,q1,G,M,O,H,J,.slice T V U] 0
 exact Zho (v:=.agg #[F,q1,G,M,O,H,J,.slice T V U]) (Aq rfl _ _ (w+1) 0 [F,q1,G,M,O,H,J,.slice T V U] rfl aj.range yG yG) rfl
  ⟨_,rfl,Ey.lower (Ey.grown al.out aa ad) A.size,Cn a9 _ _ _ a9.size yE⟩
theorem Anf (w:zN):
  Calls prog 128 #[.string ⟨#[122,122]⟩] w fun e w'=>∃a3,e=.returned (.agg a3.toArray)/\Ey w' w No a3/\Below w w w':=by
 obtain⟨A,D,ag,a9,aA⟩:=Bx w zZ 43
 have ah:=Zaa D
 have a8:=Zaa ag
 have au:=Zaa Aqn
 have aD:=Au.nil B2 A A 43 8
 clear D ag aA
 go_enter func128,ntmps128
 go_upto_region 1 with fail
 have D:=ah.out
 rw[D]
 clear D ah
 go_wp2_with fail
 go_loopw [3,8] (fun az v wr=>∃j:Nat,j<=2/\v=.int .i64 j/\Au B2 A 43 8 wr (List.replicate j zR) az/\Below A A wr) (fun _ v _=>2 - (intOf v).toNat)
 case atStart=>exact⟨0,Zap _,rfl,aD,Zai _ _⟩
 case round=>
  obtain⟨j,aJ,rfl,a0,U⟩:=hrel;by_cases aI:j<2
  ·have aN:(j:Int) <2:=by omega
   have ax:∀h:j< (⟨#[122,122]⟩:ByteArray).size,(((⟨#[122,122]⟩:ByteArray)[j]'h).toNat:Int)=122:=fun h=>by
    rcases(show j=0\/j=1 from yE)with rfl | rfl<;>rfl
   obtain⟨a1,lc,F,a2⟩:=a0.shape;rw[Zer]at F a2;subst F;go_wp2_with fail
   refine(au.out wr).mono ?_;rintro e aG ⟨rfl,aa⟩;have aF:=a0.below B2.Ab aa (Zab _);have ai:=U.trans (aa.mono U.size);have a6:(List.replicate j zR).length=j:=Zer;clear ax;go_wp2_with (at_builtin;go_loud (refine Am B2.Ab rfl _ _ 41 rfl A.heap.size 43 8 80 Ez E9 yH (List.replicate j zR) _ rfl aF zR [.int .u8 2,zI,.int .u64 288230376151711744,zI,zI,zE,zE,zH] rfl rfl (Aq1 _ _) rfl yL (by rw[a6];unfold maxLen;omega) (by rw[a6];omega) ai.size ?_;intro aH aL aM ad ar ay _ _ _))
   simp only[a6]at ad ar;have aE:=(ai.mono (Zab _)).trans ay;go_wp2_with fail
   go_roundw
   case rel=>exact⟨j+1,yE,yK,by rw[List.replicate_succ'];exact ad,aE⟩
   case measure=>simp[intOf];omega
  obtain rfl:j=2:=by omega
  obtain⟨a1,lc,F,a2⟩:=a0.shape;rw[Zer]at F a2;subst F;have af:=a0.list B2.Ab;have ac:Bo wr wr No [.int .u8 3,zI,zI,zI,zI,zE,zE,.slice a1 2 lc]:=by
   obtain⟨a,c,ap,aK,a4⟩:=af;cases ap;simp only[No,Tree.A6];refine⟨a1,lc,rfl,a2,a4.imp (fun h=>yX) ?_⟩;rintro⟨b,o,rfl,U,a4⟩;refine⟨b,o,rfl,U,?_⟩;rw[Tree.Ol];intro i ae;obtain⟨cs,g1,g2⟩:=a4 i xE;refine⟨cs,g1,?_⟩;rcases(show i=0\/i=1 from vB)with rfl | rfl<;>exact g2
  have am:=Zaa (Agz [zR,zR] yH Rm yH a1 lc wr wr (Zab _) ac);have av:=Zaa (a8.out.below U a8.out.lt);have a7:=a9.trans (U.mono a9.size);have al:w.heap.size<wr:=Zal a8.out.lt U.size;simp only[Zao,Zav]at am;clear af ac;go_wp2_with fail
  refine am.out.mono ?_;rintro e ao ⟨a3,rfl,a5,ab⟩;have aj:=a5;obtain⟨G,q1,H,O,T,J,M,V,Y,W,rfl⟩:=Bo.eight a5.in;have an:=av.out.below ab al;have aw:=Zaa an.there;have ak:=a7.trans (ab.mono a7.size);have aC:=Zaa aj;clear a5 aj;go_wp2_with (refine Zil rfl 43 _ _ rfl w.heap.size 0 #[G,q1,H,O,T,J,M,.slice V Y W] rfl rfl aw.out yG yL ?_)
  have aB:=an.fill (vs:=[G,q1,H,O,T,J,M,.slice V Y W]) rfl;have aq:=Ao ao w [G,q1,H,O,T,J,M,.slice V Y W] 0;exact Zho (v:=.agg #[G,q1,H,O,T,J,M,.slice V Y W]) (Aq rfl _ _ w 0 [G,q1,H,O,T,J,M,.slice V Y W] rfl aB.range yG yG) rfl
   ⟨_,rfl,Ey.lower (Ey.grown aC.out al aq) a7.size,Cn ak _ _ _ ak.size (Zab _)⟩
end Go.Proofs.YtafmoofknjncpaaGreatDoor
