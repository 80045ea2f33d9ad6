/- A part of the proof that ModelWrong holds: its theorems stand as they are typed. -/
import Derived.Test.YtafmoofknjncpaaGreatDoorX
import Derived.Test.YtafmoofknjncpaaGreatDoorQa
set_option linter.all false
set_option maxRecDepth 100000
set_option maxHeartbeats 8000000
namespace Go.Proofs.YtafmoofknjncpaaGreatDoor
open Tryz Go.RowKit Go.Shelf
structure Nl where
 st:Bool
 sp:Bool
 Bu:Rx
def Gv (w:zN) (S:zT) (x:Nl) (cs:zP):Prop:=∃A,cs=.bool x.st::.bool x.sp::A/\B2 w S x.Bu A
theorem Gv.Ab:Cp Gv:=by
 rintro w w' S S' x cs A hm ⟨D,rfl,h⟩;exact⟨D,rfl,B2.Ab _ _ _ _ _ _ A hm h⟩
def Z2:Rx:=.node ⟨1,0,0,0,0,0,0⟩ []
theorem Agx:F3 Z2:=⟨fun x A=>by
 simp only[Z2,Tree.pre,Tree.Dw,Zbf]at A;subst A;exact .empty _ rfl (by simp[Tree.Ak,Cc.blank]) (by simp[Tree.Ak,Cc.plain]),yH,yH,yH⟩
theorem Akw (s:zQ) (O:s.length<=512) (i:Nat) (M:i<=s) (H:zO) (G:Nat) (w:zN):
  Calls prog 161 #[.agg #[.int .u8 1,zI,zI,zI,zI,zE,zE,zH],.slice H s G,i] w fun e w'=>e=.returned (.int .i64 0)/\Below w w w':=by
 obtain⟨F,A,fi,aa,J⟩:=Bx w [.int .u8 1,zI,zI,zI,zI,zE,zE,zH] 43
 have c3:=Zaa (S8 Z2 false false [.int .u8 1,zI,zI,zI,zI,zE,zE,zH] F 0 Agx (Zap _) (by
  simp only[Z2,Tree.In,Tree.A6];exact⟨none,0,rfl,Zab _,.inl trivial⟩))
 refine Z3Q ?_
 intro dg dm cd et
 have W:=fi.cell (j:=4) rfl
 have V:=fi.cell (j:=5) rfl
 have U:=fi.cell (j:=6) rfl
 have Y:=fi.cell (j:=7) rfl
 have D:=Zaa A
 have T:¬(s.length:Int) >512:=yE
 have a0:¬(i:Int) <0:=yE
 have a1:¬(i:Int) >s.length:=yE
 clear A J fi
 go_enter func161,ntmps161
 go_upto_region 1 with fail
 have A:=D.out
 rw[A]
 clear A D
 go_wp2_with fail
 refine Z0P ?_
 exact Z2J
theorem Akr (l:List Nl) (aa:l.length<=64) (a4:∀x∈l,F3 x.Bu) (s:zQ) (a5:s.length<=512) (i:Nat) (a2:i<=s) (Y:zO) (V:Nat) (a0:Value) (w:zN) (n:Nat) (a3:n<=w) (a7:Al Gv 10 w (fun b=>b<n) l a0):
  Calls prog 129 #[a0,.slice Y s V,i] w fun e w'=>e=.returned (.int .i64 0)/\Below w w w':=by
 obtain⟨ae,lc,rfl,ah,H⟩:=id a7
 have ag:¬(l.length:Int) >64:=yE
 go_enter func129,ntmps129
 go_wp2_with fail
 go_loopw [14] (fun v wr=>∃j:Nat,j<=l/\v=.int .i64 j/\Below w w wr) (fun v _=>l.length - (intOf v).toNat)
 case atStart=>exact⟨0,Zap _,rfl,Zai _ _⟩
 case round=>
  obtain⟨j,a9,rfl,U⟩:=hrel;by_cases D:j<l
  ·have ad:(j:Int) <l.length:=by omega
   rcases H with rfl | ⟨b,o,rfl,ac,H⟩
   ·simp at D
   obtain⟨cs,h1,ab,rfl,h2⟩:=H j D;have W:=a4 _ (Zat D);generalize l[j]=x at h1 h2 W;have a1:=h2;obtain⟨M,s0,s1,s2,s3,mn,mx,J,O,G,rfl⟩:=Bo.eight h2;have A:=Aa h1 U yE;have d0:=A 0 _ rfl;have d1:=A 1 _ rfl;have d2:=A 2 _ rfl;have d3:=A 3 _ rfl;have d4:=A 4 _ rfl;have d5:=A 5 _ rfl;have d6:=A 6 _ rfl;have d7:=A 7 _ rfl;have d8:=A 8 _ rfl;have d9:=A 9 _ rfl;simp only[Zaf]at d0;have af:=Ae wr [.bool x.st,.bool x.sp,M,s0,s1,s2,s3,mn,mx,.slice J O G] 45;have T:Below wr wr (wr.alloc (.cells #[.bool x.st,.bool x.sp,M,s0,s1,s2,s3,mn,mx,.slice J O G] 45)):=Af _;have c3:=Zaa (S8 x.Bu x.st x.sp _ (wr.alloc (.cells #[.bool x.st,.bool x.sp,M,s0,s1,s2,s3,mn,mx,.slice J O G] 45)) n W (by have:=U.size;simp;omega) (B2.Ab.below a1 ((U.trans (T.mono U.size)).mono a3)));simp only[Zas,Zau]at c3;clear h1 h2 a1;go_wp2_with fail
   refine Z0P ?_;rintro e a6 ⟨rfl,F⟩;have n6:=T.trans (F.mono T.size);go_wp2_with fail
   exact Z3g
  obtain rfl:j=l:=by omega
  refine Z1q ?_;intro fe;have a8:=Zaa (Akw s a5 i a2 Y V wr);go_wp2_with fail
  refine a8.out.mono ?_;rintro e a6 ⟨rfl,F⟩;go_wp2_with fail
  go_ret;exact⟨rfl,U.trans (F.mono U.size)⟩
def Mo (s:zQ) (i:Nat):List Nl->Nat->Option (Nat×Nat)
 | [],_=>none
 | x::r,k=>match Q5 x.st x.sp x.Bu s i with
  | some f=>some (k,f)
  | none=>Mo s i r (k+1)
def firstM (l:List Nl) (s:zQ):Nat->Nat->Option (Nat×Nat×Nat)
 | 0,_=>none
 | m+1,i=>match Mo s i l 0 with
  | some (k,f)=>some (k,f,i)
  | none=>firstM l s m (i+1)
def Xh:Option (Nat×Nat×Nat)->List Value
 | none=>[zE,zE,zE]
 | some (k,f,i)=>[k,f,i]
theorem Als (l:List Nl) (aC:l.length<=64) (aj:∀x∈l,F3 x.Bu/\Told x.Bu) (s:zQ) (al:s.length<=512) (i:Nat) (ai:i<=s) (a7:zO) (a5:Nat) (ab:Value) (w:zN) (n:Nat) (a4:n<=w) (ar:Al Gv 10 w (fun b=>b<n) l ab) (ak:Kn w n s (.slice a7 s a5)):
  Calls prog 130 #[ab,.slice a7 s a5,i] w fun e w'=>e=.returned (.tuple #[.agg (Xh ((Mo s i l 0).map fun p=>(p.1,p.2,i))).toArray,.bool (Mo s i l 0).isSome])/\Below w w w':=by
 obtain⟨F,hF⟩:=zL (Mo s i l 0)
 rw[hF]
 obtain⟨aN,lc,rfl,aP,a8⟩:=id ar
 obtain⟨az,H,ac,ag,ao⟩:=Bx w [zE,zE,zE] 197
 have ad:=Zaa H
 have ax:=Zaa ac
 clear H ac ao
 go_enter func130,ntmps130
 go_upto_region 1 with fail
 have H:=ad.out
 rw[H]
 clear H ad
 go_wp2_with fail
 go_loopw [14] (fun v wr=>∃j:Nat,j<=l/\v=.int .i64 j/\Mo s i (l.drop j) j=F/\Ar wr w 197 [zE,zE,zE]/\Below w w wr) (fun v _=>l.length - (intOf v).toNat)
 case atStart=>exact⟨0,Zap _,rfl,hF,ax.out,ag⟩
 case round=>
  obtain⟨j,aA,rfl,D,J,U⟩:=hrel;by_cases T:j<l
  ·have aM:(j:Int) <l.length:=by omega
   rcases a8 with rfl | ⟨b,o,rfl,aK,a8⟩
   ·simp at T
   obtain⟨cs,h1,aH,rfl,h2⟩:=a8 j T;have a6:=aj _ (Zat T);rw[Zbq T]at D;generalize l[j]=x at h1 h2 a6 D;have af:=h2;obtain⟨av,s0,s1,s2,s3,mn,mx,aq,aw,ap,rfl⟩:=Bo.eight h2;have e0:=Aa h1 U yE;refine Z10 ?_;intro d0 d1 d2 d3 d4 d5 d6 d7 d8 d9;simp only[Zaf]at d0;have an:=J.lt;obtain⟨ah,O,a0,aa,au⟩:=Bx wr [.bool x.st,.bool x.sp,av,s0,s1,s2,s3,mn,mx,.slice aq aw ap] 45;have ae:=Zaa O;have a3:=Zaa (J.below aa an);have aG:=Zaa a0;have G:=Zaa (U.trans (aa.mono U.size));have W:=Zaa (Al5 x.st x.sp x.Bu a6.2 (by have:=a6.1.size;omega) s al i ai a7 a5 _ ah n (Zag a4 G.out.size) (Dr.Ab.below ak (G.out.mono a4)) (B2.Ab.below af (G.out.mono a4)));have a1:=Zaa a0.there;have A:=a0;clear h1 h2 af O a0 au J U e0;go_upto_region 4 with fail
   have O:=ae.out;rw[O];clear O ae;have aF:=A.cell (j:=0) rfl;have aI:=A.cell (j:=1) rfl;have aJ:=A.cell (j:=2) rfl;have aL:=A.cell (j:=3) rfl;have aO:=A.cell (j:=4) rfl;have ay:=A.cell (j:=5) rfl;have aB:=A.cell (j:=6) rfl;have aQ:=A.cell (j:=7) rfl;have aD:=A.cell (j:=8) rfl;have aE:=A.cell (j:=9) rfl;cases V:Q5 x.st x.sp x.Bu s i with
   | some f=>
    rw[V]at W;simp only[Mo,V]at D;go_wp2_with fail
    refine W.out.mono ?_;rintro e am ⟨rfl,M⟩;have a2:=a3.out.below M a3.out.lt;have a1:=Zaa a2.there;have Y:=G.out.trans (M.mono G.out.size);go_wp2_with (refine Zil rfl 197 _ _ rfl w.heap.size 0 #[j,f,i] rfl rfl a1.out yG yL ?_)
    have a9:=a2.fill (vs:=[j,f,i]) rfl;subst D;exact Zho (Gc rfl _ _ w 0 [j,f,i] (.bool true) rfl rfl a9.range yG yG) rfl ⟨rfl,Cn Y _ _ _ Y.size (Zab _)⟩
   | none=>
    rw[V]at W;simp only[Mo,V]at D;go_wp2_with fail
    refine W.out.mono ?_;rintro e am ⟨rfl,M⟩;have a2:=a3.out.below M a3.out.lt;have Y:=G.out.trans (M.mono G.out.size);go_wp2_with fail
    go_roundw
    case rel=>exact⟨j+1,yE,yK,D,a2,Y⟩
    case measure=>simp[intOf];omega
  obtain rfl:j=l:=by omega
  refine Z1q ?_;intro fe;have a1:=Zaa J.there;simp only[Zdq,Mo]at D;go_wp2_with (refine Zil rfl 197 _ _ rfl w.heap.size 0 #[zE,zE,zE] rfl rfl a1.out yG yL ?_)
  have a9:=J.fill (vs:=[zE,zE,zE]) rfl;subst D;exact Zho (Gc rfl _ _ w 0 [zE,zE,zE] (.bool false) rfl rfl a9.range yG yG) rfl ⟨rfl,Cn U _ _ _ U.size (Zab _)⟩
theorem Ko {fn:Func} {p q r:Tmp} {ty:TypeId} (h:fn.results=#[.cell p ty,.tmp q,.tmp r]) (tmps:Array Value) (w:zN) (b o:Nat) (cs:zP) (v u:Value) (hp:tmps.getD p undef=.pointer (some ⟨b,o,none⟩)) (A:tmps.getD q undef=v) (F:tmps.getD r undef=u) (H:w.rangeAt b o cs)
  (D:(prog.underlying ty).map (·.isRow)=some true) (G:(prog.info? ty).map (·.size)=some cs.length):
  (results fn tmps).run prog w=.ok (.tuple #[.agg cs.toArray,v,u]) w:=by
 obtain⟨d,hu,J⟩:∃d,prog.underlying ty=some d/\d.isRow=true:=by
  cases A:prog.underlying ty with
  | none=>rw[A]at D;cases D
  | some d=>rw[A]at D;exact⟨d,rfl,by simpa using D⟩
 rw[Zbv]at hp A F
 simp only[results,h]
 simp[Zgv,Result.andThen,hp,A,F,asAddr,Zif w b o ty cs d H hu J G]
theorem Wi (l:List Nl) (ac:l.length<=64) (aa:∀x∈l,F3 x.Bu/\Told x.Bu) (s:zQ) (ab:s.length<=512) (a2:zO) (a1:Nat) (a3:Value) (w:zN) (n:Nat) (J:n<=w) (af:Al Gv 10 w (fun b=>b<n) l a3) (al:Kn w n s (.slice a2 s a1)):
  Calls prog 96 #[a3,.slice a2 s a1] w fun e w'=>e=.returned (.tuple #[.agg (Xh (firstM l s (s+1) 0)).toArray,.bool (firstM l s (s+1) 0).isSome,zE])/\Below w w w':=by
 obtain⟨F,hF⟩:=zL (firstM l s (s+1) 0)
 rw[hF]
 obtain⟨ak,M,ag,a0,ap⟩:=Bx w [zE,zE,zE] 197
 have ah:=Zaa M
 have ai:=Zaa ag
 have an:=Zaa (Akr l ac (fun x h=>(aa x h).1) s ab 0 (Zap _) a2 a1 a3 ak n (Zag J a0.size) (Al.Ab Gv.Ab |>.below af (a0.mono J)))
 clear M ag ap
 go_enter func96,ntmps96
 go_upto_region 1 with fail
 have M:=ah.out
 rw[M]
 clear M ah
 go_wp2_with fail
 refine an.out.mono ?_
 rintro e au ⟨rfl,a9⟩
 have aq:=ai.out.below a9 ai.out.lt
 have ao:=a0.trans (a9.mono a0.size)
 have hlen:IntKind.i64.wrap ((s.length:Int)+1)=(s.length:Int)+1:=by rw[Zcw];omega
 go_wp2_with fail
 go_loopw [21] (fun v wr=>∃j:Nat,j<=s+1/\v=.int .i64 j/\firstM l s (s+1 - j) j=F/\Ar wr w 197 [zE,zE,zE]/\Below w w wr) (fun v _=>s.length+1 - (intOf v).toNat)
 case atStart=>exact⟨0,Zap _,rfl,hF,aq,ao⟩
 case round=>
  obtain⟨j,aw,rfl,A,T,U⟩:=hrel;by_cases av:j<s+1
  ·have aB:(j:Int) < (s.length:Int)+1:=by omega
   have D:=Zaa (Als l ac aa s ab j yE a2 a1 a3 wr n (Zag J U.size) (Al.Ab Gv.Ab |>.below af (U.mono J)) (Dr.Ab.below al (U.mono J)));rw[show s+1 - j=(s.length+1 - (j+1))+1 from yE]at A;have ae:=T.lt;cases a5:Mo s j l 0 with
   | some p=>
    obtain⟨k,f⟩:=p;rw[a5]at D;simp only[firstM,a5]at A;simp only[Zaj,Xh]at D;go_wp2_with fail
    refine D.out.mono ?_;rintro e a6 ⟨rfl,W⟩;have ad:=Zaa (T.below W ae);have V:=U.trans (W.mono U.size);go_upto_region 8 with fail
    obtain⟨am,Y,H,O,a8⟩:=Bx a6 [k,f,j] 197;rw[Y];have ax:=H.cell (j:=0) rfl;have ay:=H.cell (j:=1) rfl;have az:=H.cell (j:=2) rfl;have G:=ad.out.below O ad.out.lt;have a7:=Zaa G.there;have a4:=V.trans (O.mono V.size);clear Y a8 H;go_wp2_with (refine Zil rfl 197 _ _ rfl w.heap.size 0 #[k,f,j] rfl rfl a7.out yG yL ?_)
    have ar:=G.fill (vs:=[k,f,j]) rfl;subst A;exact Zho (Ko rfl _ _ w 0 [k,f,j] (.bool true) (.int .i64 0) rfl rfl rfl ar.range yG yG) rfl ⟨rfl,Cn a4 _ _ _ a4.size (Zab _)⟩
   | none=>
    rw[a5]at D;simp only[firstM,a5]at A;simp only[Option.map_none,Xh]at D;go_wp2_with fail
    refine D.out.mono ?_;rintro e a6 ⟨rfl,W⟩;have aj:=T.below W ae;have V:=U.trans (W.mono U.size);go_upto_region 8 with fail
    obtain⟨am,Y,H,O,a8⟩:=Bx a6 [zE,zE,zE] 197;rw[Y];have G:=aj.below O aj.lt;have a4:=V.trans (O.mono V.size);clear Y a8 H;go_wp2_with fail
    go_roundw
    case rel=>exact⟨j+1,yE,yK,A,G,a4⟩
    case measure=>simp[intOf];omega
  obtain rfl:j=s+1:=by omega
  have aA:¬(((s.length+1:Nat):Int) < (s.length:Int)+1):=yE;have a7:=Zaa T.there;simp only[Zgj,firstM]at A;go_wp2_with (refine Zil rfl 197 _ _ rfl w.heap.size 0 #[zE,zE,zE] rfl rfl a7.out yG yL ?_)
  have G:=T.fill (vs:=[zE,zE,zE]) rfl;subst A;exact Zho (Ko rfl _ _ w 0 [zE,zE,zE] (.bool false) (.int .i64 0) rfl rfl rfl G.range yG yG) rfl ⟨rfl,Cn U _ _ _ U.size (Zab _)⟩
end Go.Proofs.YtafmoofknjncpaaGreatDoor
