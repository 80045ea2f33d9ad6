/- A part of the proof that ModelWrong holds: its theorems stand as they are typed. -/
import Derived.Test.YtafmoofknjncpaaGreatDoorQl
set_option linter.all false
set_option maxRecDepth 100000
set_option maxHeartbeats 8000000
namespace Go.Proofs.YtafmoofknjncpaaGreatDoor
section
open Tryz Go.RowKit Go.Shelf
def Aj3 (s:Ap) (st G:Bb):Prop:=
 ∀(w:zN) (P:zT) (lo A mt F lb D:Nat) (s0 s1 s2:Value),Bt w P lo A mt F lb D s0 s1 s2 st->A0 w P s [s0,s1,s2]->
  Calls prog 37 #[zK A] w fun e w'=>e=.returned (.tuple #[])/\Bt w' P lo A mt F lb D s0 s1 s2 G/\A8 P w w'
theorem Y0 {w:zN} {lo:Nat} {x:Int} {v:Value} (h:Au Di lo 3 1 w [x] v):∃g c,v=.slice (some ⟨g,0,none⟩) 1 c/\1<=c/\g<w.heap.size/\w.rangeAt g 0 [x]:=by
 obtain⟨D,h1,h2,h3⟩:=h;obtain⟨a,c,rfl,H⟩:=h1.shape;rw[Zes]at h2;rcases h1.at_ with h0 | ⟨g,J,F,M,G,A⟩
 ·rw[h0]at h2;cases h2
 cases F;have h4:=h3 0 yF yE;have h5:=A 0 yE;rw[show D[0]=[.int .i64 x]from h4]at h5;exact⟨g,c,by rw[h2],yE,G,by simpa using h5⟩
theorem Qt (s:Ap) (st ay:Bb) (x:Bc) (ai:s.Ac[st.state]? =some x) (hlen:x.Ai.length<=1000) (cF:st.Az<=1000) (t:Nat) (h1:H5 x.Ai=[2]) (h2:I6 x.Ai 0=[(t:Int)]) (h3:(¬st.Az+1=2/\ay=st.tick)\/st.Az+1=2/\L6 s t 0 [] st.tick ay):Aj3 s st ay:=by
 intro w P lo a6 mt aM lb aF s0 s1 s2 h an;obtain⟨cm,co,c1,os,bt,cz,rc,rfl,rfl,rfl,cM,cv,bp,bB⟩:=Ku an ai;have c6:=(Zeg.1 ai).1;have bC:=(Zeg.1 ai).2;have bH:=Zaa h3;have H1:=Zaa h1;have aE:=Zaa h2;obtain⟨⟨bq,bQ,U,aZ,he,aS⟩,-⟩:=id h;have W:=U.cell (j:=7) rfl;have f7:=U.frozen 7;have am:=As w a6 7 (.int .i64 ((st.Az:Int)+1));have V:=h.U1 st.tick he aS am rfl rfl rfl rfl (by
  have:=U.set 7 (.int .i64 ((st.Az:Int)+1));simp only[Bb.tick];rw[Zct];exact this) aZ
 have ag:=h.kept am;have ah:=A0.Ab.block an fun b U=>ag.block b U
 have cr:(st.Az:Int)<=1000:=yE;clear U aZ he aS h an bB bp h1 h2 h3;go_enter func37,ntmps37
 go_upto_region 2 with fail
 generalize w.setCell ⟨a6,7,none⟩ (.int .i64 ((st.Az:Int)+1))=ak at V ah ag|-;clear W f7 am;have b4:=Zaa (Uf ak P lo a6 mt aM lb aF _ _ st.tick s.Ac P (some ⟨c1,os,none⟩) bt V (by
  obtain⟨v,u,e,cA,bR⟩:=ah;simp only[Zdm,Zhm]at e;obtain⟨-,-,rfl⟩:=e;exact bR) c6)
 go_wp2_with fail
 refine b4.out.mono ?_;rintro e A ⟨v,rfl,b7,nd,dj⟩;have a5:Below ak ak A:=sA;have aq:=V.below a5;have b2:=A0.Ab.block ah fun b U=>a5.block b (V.low b U)
 have b3:=ag.trans (A8.By a5 V.low);have c7:Al Bj 16 A (fun b=>b<A) x.Ai v:=by
  have:=(Al.Ab Bj.Ab).wide ((Al.Ab Bj.Ab).block b7 (w':=A) fun b U=>a5.block b (V.low b U)) (fun b U=>aq.low b U);simp only[Bb.tick]at this;rw[bC]at this;exact this
 clear b7 dj b4 V ah a5 ag;have ap:=Zaa aq;have bP:=Zaa b2;clear aq b2;obtain⟨cC,cD,rfl,cq,a8⟩:=c7;have aA:=Au.nil Di A A 3 1;go_wp2_with fail
 go_loopw [2,3,19] (fun av bm v wr=>∃j:Nat,j<=x.Ai/\v=.int .i64 j/\Au Di A 3 1 wr (H5 (x.Ai.take j)) av/\Au Di A 3 1 wr (I6 (x.Ai.take j) 0) bm/\(av.ownBlock=none\/av.ownBlock≠bm.ownBlock)/\Below A A wr) (fun _ _ v _=>x.Ai.length - (intOf v).toNat)
 case atStart=>exact⟨0,Zap _,rfl,aA,aA,.inl rfl,Zai _ _⟩
 case round=>
  obtain⟨j,aH,rfl,M,hI,ae,G⟩:=hrel;obtain⟨cj,bu,rfl,bK⟩:=M.shape;obtain⟨ch,ci,rfl,bJ⟩:=hI.shape;have aP:=Afq (x.Ai.take j);have aR:=Amq (x.Ai.take j) 0;rw[Zbo,Zgb aH]at aP aR;rcases Zga j x.Ai.length with a0 | cy
  ·have cB:(j:Int) <x.Ai.length:=by omega
   rcases a8 with h0 | ⟨b,o,rfl,bT,a8⟩
   ·rw[h0]at a0;simp at a0
   obtain⟨cs,g1,g2⟩:=a8 j a0;have ad:=Zay a0;generalize x.Ai[j]=y at g1 g2 ad;obtain⟨bU,b1,z0,bs,z2,z3,z4,z5,bI,cc,ce,cd,bW,af,bX,c3,ac,c8,cb,b8,rfl⟩:=Qu g2;have e0:=Aa g1 G bT;have D:H5 (x.Ai.take (j+1))=if y.kind=4 then H5 (x.Ai.take j)++[af]else H5 (x.Ai.take j):=by rw[ad,Ac6,b8]
   have F:I6 (x.Ai.take (j+1)) 0=if y.kind=4 then I6 (x.Ai.take j) 0++[(j:Int)]else I6 (x.Ai.take j) 0:=by rw[ad,Ajx,Zbo,Zgb aH,Zac]
   have a4:=Zaa D;have a3:=Zaa F;have bh:(((y.kind.toNat:Int)==4)=true/\y.kind=4)\/(((y.kind.toNat:Int)==4)=false/\¬y.kind=4):=by
    by_cases H:y.kind=4
    ·exact .inl ⟨by rw[H];rfl,H⟩
    refine .inr ⟨?_,H⟩;rw[Zaz];intro e;exact H (Zha.1 (by simpa using(show y.kind.toNat=4 from yE)))
   generalize(y.kind.toNat:Int)=ca at e0 bh;refine Z10 ?_;intro d0 d1 d2 d3 d4 d5 d6 d7 d8 d9;have d10:=e0 10 _ rfl;have d11:=e0 11 _ rfl;have d12:=e0 12 _ rfl;have d13:=e0 13 _ rfl;have d14:=e0 14 _ rfl;have d15:=e0 15 _ rfl;rw[Zaf]at d0;clear g1 g2 e0 ad b8 a8 D F;obtain⟨cf,bZ,aI,ab,c5⟩:=Bx wr [.int .u8 ca,bU,b1,.int .u8 z0,.int .u64 bs,.int .u64 z2,.int .u64 z3,.int .u64 z4,z5,bI,.slice cc ce cd,bW,af,.slice bX c3 ac,c8,cb] 48;have ax:=Zaa aI;have az:=G.trans (ab.mono G.size);have bc:=M.below Di.Ab ab (Zab _);have bk:=hI.below Di.Ab ab (Zab _);clear aI c5 M hI;go_upto_region 5 with fail
   clear bZ d0 d1 d2 d3 d4 d5 d6 d7 d8 d9 d10 d11 d12 d13 d14 d15;have cx:=ax.out.cell (j:=0) rfl;have cu:=ax.out.cell (j:=12) rfl;have cp:=ax.out.lt;have c0:=az.size;have aT:=Zaa bc;have ao:=Zaa bk;have aD:=Zaa ae;have bo:=Zaa az;clear bc bk az ab G ae;rcases bh with⟨q1,Y⟩ | ⟨q1,Y⟩
   ·have D:=a4.out
    have F:=a3.out;rw[if_pos Y]at D F;have a4:=Zaa D;have a3:=Zaa F;clear D F Y;generalize bg:(H5 (x.Ai.take j)).length=cN at*
    generalize bn:(I6 (x.Ai.take j) 0).length=cP at*
    have aN:=Zaa bg;have aL:=Zaa bn;clear bg bn;go_upto_region 6 with fail
    go_wp2_with (at_builtin;go_loud (refine Am Di.Ab rfl _ _ 160 rfl A.heap.size 3 1 8 Hs Ie yH (H5 (x.Ai.take j)) _ rfl aT.out af [af] rfl rfl rfl rfl yL (by rw[aN.out];simp[maxLen];omega) (by rw[aN.out];omega) c0 ?_))
    intro ck W bD bb cO b0 be cH bl;have aV:=Yz ao.out be (Ij aD.out);have aX:=Mg aD.out bl (fun k aj=>(ao.out.lt k aj).2);have bO:A.heap.size<=bD:=yE;have aJ:=Zaa bb;have bM:=Zaa aV;have aO:=Zaa aX;have bE:=Zaa (bo.out.trans b0);clear bb aV aX be bl b0;go_wp2_with (at_builtin;go_loud (refine Am Di.Ab rfl _ _ 160 rfl A.heap.size 3 1 8 Hs Ie yH (I6 (x.Ai.take j) 0) _ rfl bM.out (j:Int) [j] rfl rfl rfl rfl yL (by rw[aL.out];simp[maxLen];omega) (by rw[aL.out];omega) bO ?_))
    intro ct cl cE bf cG bd ba cK aK;have b5:=Yz aJ.out ba aO.out;have aY:=Ij (Mg (Ij aO.out) aK (fun k aj=>(aJ.out.lt k aj).2));have bv:=Zaa bf;have bF:=Zaa b5;have bA:=Zaa aY;have bL:=Zaa (bE.out.trans bd);clear bf b5 aY ba aK bd;go_wp2;exact⟨⟨j+1,a0,yK,by rw[a4.out];exact bF.out,by rw[a3.out];exact bv.out,bA.out,bL.out⟩,xJ⟩
   have D:=a4.out;have F:=a3.out;rw[if_neg Y]at D F;have a4:=Zaa D;have a3:=Zaa F;clear D F Y;go_wp2;exact⟨⟨j+1,a0,yK,by rw[a4.out];exact aT.out,by rw[a3.out];exact ao.out,aD.out,bo.out⟩,xJ⟩
  obtain rfl:j=x.Ai:=by omega
  have cn:¬((x.Ai.length:Int) <x.Ai.length):=yE;rw[Zbk,H1.out]at M;rw[Zbk,aE.out]at hI;have H:(H5 (x.Ai.take x.Ai)).length=1:=by rw[Zbk,H1.out];rfl
  have aQ:(I6 (x.Ai.take x.Ai) 0).length=1:=by rw[Zbk,aE.out];rfl
  simp only[Zes]at M hI;rw[H,aQ];clear aP aR bK bJ a8 H aQ ae aA;obtain⟨g,gc,c4,cJ,b9,aw⟩:=Y0 M;cases c4;obtain⟨k,cI,c9,cw,bz,aW⟩:=Y0 hI;cases c9;have aU:=Zaa (Wx wr g 0 bu b9 aw);have a9:=ap.out.below G;have bj:=A0.Ab.block bP.out (w':=wr) fun b U=>G.block b (ap.out.low b U)
  have b6:=b3.trans (A8.By G ap.out.low);clear M hI G b3;go_wp2_with fail
  refine aU.out.mono ?_;rintro e a1 ⟨rfl,O⟩;have ar:=a9.below O;have bV:=A0.Ab.block bj (w':=a1) fun b U=>O.block b (a9.low b U)
  have Y:=b6.trans (A8.By O a9.low);have bY:=Aa aw O b9;have bN:=Aa aW O bz;have cL:=O.size;clear a9 bj b6 aU aw aW O;have a2:Below a1 a1 (a1.drewN 1):=Bk (Zai _ _) 1 (Zab _);have aa:=ar.below a2;have bi:=A0.Ab.block bV (w':=a1.drewN 1) fun b U=>a2.block b (ar.low b U)
  have aC:=Y.trans (A8.By a2 ar.low);have aB:=Aa bY a2 yE;have au:=Aa bN a2 yE;obtain⟨T,a7⟩:∃T:Int,T=((st.tick.Az:Nat):Int):=⟨_,rfl⟩;obtain⟨⟨bq,bQ,U,-⟩,-⟩:=id aa;have W:=U.cell (j:=7) rfl;rw[<-a7]at W;simp only[Bb.tick]at a7;go_upto_region 9 with fail
  refine Ce [(0,.inl none),(1,.inl none),(2,.inl none),(3,.inl none),(4,.inl none),(5,.inl (some 0)),(6,.inl none),(7,.inl none),(8,.inl none),(9,.inl (some 0)),(10,.inl none),(11,.inl none)]
   (fun _ X=>X.rangeAt g 0 [.int .i64 2]/\X.cell? ⟨a6,7,none⟩=some (.int .i64 T)) [0] yG yG (fun _ _=>⟨aB,W⟩) ?_
  refine Z09 ?_;generalize a1.drewN 1=bw at aa bi aC aB au W a2 U|-;refine Z46 ?_;refine Ba (.int .i64 2) yI (fun w' al=>?_) (fun K J=>?_)
  ·have aG:=al.1 0 _ rfl;simp only[Zaf]at aG;go_simp
  (go_simp;refine J _ ?_;clear J K)
  refine Z2u ?_;refine Ba (.int .i64 T) yI (fun w' al=>?_) (fun K J=>?_)
  ·have aG:=al.2;go_simp
  (go_simp;refine J _ ?_;clear J K)
  refine Z3t ?_;refine B1 ?_;rcases bH.out with⟨ae,rfl⟩ | ⟨he,bx⟩
  ·have br:((2:Int)==T)=false:=by rw[Zaz];omega
   clear a7;go_wp2_with fail
   go_end0
   exact⟨rfl,aa,aC⟩
  have br:((2:Int)==T)=true:=by rw[a7,he];rfl
  have bG:=Zaa (bx bw P lo a6 mt aM lb aF _ _ _ none 0 aa bi ⟨none,0,rfl,Zab _,.inl rfl⟩);have c2:=au 0 _ rfl;simp only[Zaf]at c2;clear a7 U W aB au;go_wp2_with fail
  refine bG.out.mono ?_;rintro e cg ⟨rfl,h6,bS⟩;go_wp2_with fail
  go_end0
  exact⟨rfl,h6,aC.trans bS⟩
end
section
open Tryz Go.RowKit Go.Shelf
theorem Bt.others {w w':zN} {P:zT} {lo O mt H lb G c:Nat} {s0 s1 s2:Value} {st:Bb} (h:Bt w P lo O mt H lb G s0 s1 s2 st) (D:P c) (a7:H≠c) (a6:G≠c) (J:A8 (fun k=>k≠c/\k<w.heap.size) w w'):Bt w' P lo O mt H lb G s0 s1 s2 st:=by
 obtain⟨l1,l2,a0,a1,a2⟩:=h.Mz;obtain⟨⟨F,M,U,a4,he,T⟩,W,hm,hw,Y,a5⟩:=h;have a8:∀k,M.ownBlock=some k->k<w.heap.size:=fun k A=>(he.lt k A).2
 refine⟨⟨F,M,J.box U ⟨fun e=>hw.1 (e▸D),l1⟩,Dr.Ab.wide (Dr.Ab.block a4 fun b U=>J.block b ⟨fun e=>U.2.2.2.2.2 (e▸D),U.1⟩) (fun b U=>⟨Zal U.1 J.size,U.2⟩),?_,T⟩,
  W.C4 J ⟨a7,a1⟩ ⟨fun e=>hw.2.2.1 (e▸D),a0⟩ ⟨a6,a2⟩,J.box hm ⟨fun e=>hw.2.1 (e▸D),l2⟩,hw,fun k A=>Zal (Y k A) J.size,Zag a5 J.size⟩
 obtain⟨V,g1,g2,g3⟩:=he;refine⟨V,g1.grown (row:=some c) ⟨J.os,J.tape,J.output,J.size,fun k A a3=>J.block k ⟨fun e=>a3 (by rw[e]),A⟩⟩ ?_,g2,g3⟩;cases F:M.ownBlock with
 | none=>exact .inl rfl
 | some k=>exact .inr fun e=>(T k F).1 (by cases e;exact D)
theorem X8 (w:zN) (P:zT) (lo H mt O lb M:Nat) (s0 s1 s2:Value) (st:Bb) (h:Bt w P lo H mt O lb M s0 s1 s2 st) (am:st.Ec=1) (gf:Nat) (fst a2:Array Value) (args:Array Value) (ak:∀w,(callFunc gf args).run prog w=.ok (.enter gf args) w) (ah:fst++a2=args) (a4:Bb)
  (a9:∀(X:zN) (A:zT),(∀q,P q->A q)->A8 P w X->Bt X A lo H mt O lb M s0 s1 s2 st.full->Calls prog gf args X fun e F=>e=.returned (.tuple #[])/\Bt F A lo H mt O lb M s0 s1 s2 a4/\A8 A X F):
  Calls prog 33 #[zK H,.func (.func gf) fst a2] w fun e w'=>e=.returned (.tuple #[])/\Bt w' P lo H mt O lb M s0 s1 s2 a4/\A8 P w w':=by
 have a7:=Zaa a9
 obtain⟨⟨ao,ar,U,ae,he,ac⟩,-⟩:=id h
 have ab:=U.cell (j:=11) rfl
 rw[am]at ab
 have an:=U.cell (j:=9) rfl
 have a3:=h.Ny
 have a8:=Zaa (Agt w mt st.left st.used a3)
 have a5:=As w mt 1 (.int .i64 64)
 have h1:=h.Aiq (l:=64) (u:=st.used) a5 (a3.set 1 (.int .i64 64))
 have W:=h.Am5 a5
 have ap:=h.Mz
 clear a9 a3 ae he ac
 go_enter func33,ntmps33
 go_wp2_with fail
 refine a8.out.mono ?_
 rintro e G ⟨rfl,a1⟩
 rw[<-a1]at a5 h1 W
 have ag:=W.size
 have aq:G.heap.size=w.heap.size:=by rw[a1];simp
 clear a1 a8 ab an U
 have a6:=Amk gf fst a2 args ak G (fun F=>∃A:Nat->Prop,(∀q,P q->A q)/\A G.heap.size/\Bt F A lo H mt O lb M s0 s1 s2 a4/\A8 P G F) ah (fun X a0 au=>by
  have hp:∀q,P q->P q\/G.heap.size<=q/\q<X.heap.size:=fun q V=>.inl V
  have ai:=h1.more a0;refine(a7.out X _ hp (W.trans (A8.By a0 h1.low)) ai).mono ?_;rintro e F ⟨rfl,T,D⟩;exact⟨rfl,D.Gz fun k D=>.inr ⟨D.1,yE⟩,_,hp,.inr ⟨Zab _,yE⟩,T,(A8.By a0 h1.low).trans (D.Gz hp)⟩)
 have c3:=Zaa a6
 clear a6
 go_wp2_with fail
 refine Z0P ?_
 rintro e Y ⟨rfl,F,⟨A,al,af,T,D⟩,ad,J⟩
 have h2:=T.others af yE yE J
 have aa:=h.low
 have aj:A8 P G Y:=D.trans (J.Gz fun k V=>⟨fun e=>by have:=aa k V;omega,Zal (Zal (aa k V) ag) ad⟩)
 have h3:=h2.Gz al
 clear h2 T D J c3 a7
 go_wp2_with fail
 go_end0
 exact⟨rfl,h3.below (Bq Y _),W.trans (aj.trans (A8.By (Bq Y _) h3.low))⟩
def Ov (s:Ap) (M c:Nat) (st J:Bb):Prop:=
 ∀(w:zN) (P:zT) (lo A mt F lb D:Nat) (s0 s1 s2:Value) (H G:Nat),Bt w P lo A mt F lb D s0 s1 s2 st->A0 w P s [s0,s1,s2]->Ar w H 55 [.int .u8 M,.int .u8 c]->Ar w G 105 [zK A]->
  Calls prog 35 #[zK H,zK G] w fun e w'=>e=.returned (.tuple #[])/\Bt w' P lo A mt F lb D s0 s1 s2 J/\A8 P w w'
theorem So (s:Ap) (c:UInt8) (st A:Bb) (h:Acq s c st A):Ov s 1 c.toNat st A:=by
 exact Z2H
theorem Pc (s:Ap) (st A:Bb) (h:Aj3 s st A):Ov s 2 0 st A:=by
 exact Z2H
theorem Ab0 (s:Ap) (st V:Bb) (h:Ana s st.over V):Ov s 3 0 st V:=by
 intro w P lo A mt a1 lb a0 s0 s1 s2 ag a6 D M H F;have a7:=Zaa h;have ad:=H.cell (j:=0) rfl;have ae:=H.cell (j:=1) rfl;have ab:=F.cell (j:=0) rfl;obtain⟨⟨aa,af,U,T,he,O⟩,-⟩:=id D;have ac:=U.cell (j:=8) rfl;have f8:=U.frozen 8;have G:=As w A 8 (.bool true);have h1:=D.U1 st.over he O G rfl rfl rfl rfl (U.set 8 (.bool true)) T;have J:=D.kept G;have W:=A0.Ab.block M fun b U=>J.block b U
 have a4:a6≠A:=by
  rintro rfl;have a3:=U.symm.trans F;simp at a3
 have a8:=F.grown G (B4 a4);have a2:=a8.cell (j:=0) rfl;clear h U T he O D M H F;go_enter func35,ntmps35
 go_wp2_with fail
 generalize w.setCell ⟨A,8,none⟩ (.bool true)=Y at h1 J W a2|-;refine(a7.out Y P lo A mt a1 lb a0 s0 s1 s2 h1 W).mono ?_;rintro e a9 ⟨rfl,h2,a5⟩;go_wp2_with fail
 go_end0
 exact⟨rfl,h2,J.trans a5⟩
end
section
open Tryz Go.RowKit Go.Shelf
theorem Alr (s:Ap) (w:zN) (P:zT) (lo F mt Y lb a1:Nat) (s0 s1 s2:Value) (st:Bb) (h:Bt w P lo F mt Y lb a1 s0 s1 s2 st) (ay:A0 w P s [s0,s1,s2]) (x:Bc) (T:s.Ac[st.state]? =some x) (gl:J0 x.Ai) (y9:st.Bd.length<=512) (k f i:Nat) (hit:firstM (Eg x.Ai) st.Bd (st.Bd+1) 0=some (k,f,i)) (bv:f<i) (af:i<=st.Bd) (q:Nl) (D:(Eg x.Ai)[k]? =some q) (t:Nat) (am:(Gu x.Ai 0)[k]? =some (t:Int))
  (be:q.Bu.B3<=1) (sub:zQ) (aM:sub=(st.Bd.take i).drop f) (aW:De sub q.Bu 0 0=[sub.length]) (M:List (Int×Int)) (bh:Gw sub q.Bu 0 0 sub (List.replicate q.Bu.B3 (-1,-1))=M) (aX:∀p∈M,0<=p.1/\p.1<p.2/\p.2<=sub.length) (aN:Bb)
  (b2:∀(X:zN) (a5:zT) (a3:zO) (a4:Nat),(∀q,P q->a5 q)->Bt X a5 lo F mt Y lb a1 s0 s1 s2 st->A0 X a5 s [s0,s1,s2]->Al Eh 1 X a5 (Lv sub M) (.slice a3 (Lv sub M).length a4)->
   Calls prog 69 #[zK F,t,i,.slice a3 (Lv sub M).length a4] X fun e ab=>e=.returned (.tuple #[])/\Bt ab a5 lo F mt Y lb a1 s0 s1 s2 aN/\A8 a5 X ab):
  Calls prog 64 #[zK F] w fun e w'=>e=.returned (.tuple #[])/\Bt w' P lo F mt Y lb a1 s0 s1 s2 aN/\A8 P w w':=by
 have bQ:=Zaa b2
 have au:=Zaa h
 have br:=Zaa ay
 have b7:=Zaa gl.Xi
 clear b2
 obtain⟨a9,aa,b,o,a2,fp,rc,rfl,rfl,rfl,bY,bL,bj,bl⟩:=Ku ay T
 have ae:=(Zeg.1 T).1
 obtain⟨⟨c0,bd,U,bc,he,bu⟩,-⟩:=id h
 obtain⟨ef,aw,rfl,nf⟩:=Md bc
 have o0:=h.low
 have c1:=U.lt
 have bn:=o0 b bL
 clear bc he bu
 have b8:=Zaa nf
 refine Z44 ?_
 intro c8 bd0 bsp blc bp
 clear ay T bl nf ae gl
 generalize b5:s.Ac.length=aQ at U bY blc bp|-
 have bz:=Zaa b5
 clear b5
 go_enter func64,ntmps64
 go_upto_region 0 with fail
 refine Ce [(0,.inl none),(1,.inl none),(2,.inl none),(3,.inl none),(4,.inl (some 0)),(5,.inl none),(6,.inl none),(7,.inl none),(8,.inl (some 0)),(9,.inl none),(10,.inl (some 0)),(11,.inr ([],[])),(12,.inl none),(13,.inl none),(14,.inl none),(15,.inl none),(16,.inl none)]
  (fun _ X=>Ar X F 107 [s.Aj,.slice a9 s.An aa,.slice (some ⟨b,o,none⟩) aQ a2,st.state,zK Y,.slice ef st.Bd aw,st.low,st.Az,st.eof,zK mt,bd,.int .u8 st.Ec,st.Es]/\X.rangeAt b (o+st.state*2) [x.name,.slice fp x.Ai rc]) [0] yG yG (fun _ _=>⟨U.drewN 1,Aa bj c8 bn⟩) ?_
 refine Z09 ?_
 have ah:=U.drewN 1
 generalize w.drewN 1=bk at c8 ah|-
 iterate 4 (refine Ah (fun K J=>?_);go_simp;refine J _ ?_;clear J K)
 refine Ba (.slice (some ⟨b,o,none⟩) aQ a2) yI (fun w' A=>?_) (fun K J=>?_)
 ·have G:=A.1.cell (j:=2) rfl;go_simp
 (go_simp;refine J _ ?_;clear J K)
 iterate 3 (refine Ah (fun K J=>?_);go_simp;refine J _ ?_;clear J K)
 refine Ba (.int .i64 st.state) yI (fun w' A=>?_) (fun K J=>?_)
 ·have G:=A.1.cell (j:=3) rfl;go_simp
 (go_simp;refine J _ ?_;clear J K)
 refine Z2o ?_
 refine Gx (v:=.agg ([x.name,.slice fp x.Ai rc]:List Value).toArray) rfl (fun W bm=>B6 37 _ rfl b (o+st.state*2) rfl [x.name,.slice fp x.Ai rc] bm.2 yG yG) ?_
 refine A1 rfl (fun K J=>?_)
 go_wp2_with fail
 refine(bd0.out bk c8).mono ?_
 rintro e av ⟨cz,cy,rfl,aO,hA2,ax⟩
 have aj:=c8.trans (ax.mono c8.size)
 have ap:=ah.below ax ah.lt
 have b0:=Zaa aO
 obtain⟨cr,lc,rfl,-⟩:=id aO
 obtain⟨cm,ac,rfl,-⟩:=id hA2
 have bP:=Zaa hA2
 clear aO hA2
 go_wp2_with fail
 refine Z4v ?_
 clear J K
 refine Z53 ?_
 have bt:=Zaa (bsp.out av aj _ b0.out)
 have bV:=ap.cell (j:=5) rfl
 go_wp2_with fail
 refine bt.out.mono ?_
 rw[hit]
 rintro e aY ⟨rfl,a6⟩
 have bi:=aj.trans (a6.mono aj.size)
 have ao:=ap.below a6 ap.lt
 simp only[Xh,Zgo]
 clear bV
 have cv:=ao.lt
 go_upto_region 3 with fail
 obtain⟨a0,bg,an,al,-⟩:=Bx aY [k,f,i] 197
 rw[bg]
 clear bg
 have bT:=ao.below al ao.lt
 have ag:=bi.trans (al.mono bi.size)
 have co:=aj.size
 have bN:=a6.size
 have cx:=al.size
 have aq:Below av av a0:=a6.trans (al.mono bN)
 obtain⟨cg,c6,ad,cw,h0 | ⟨b4,aZ,rfl,bX,bf⟩⟩:=b0.out
 ·rw[h0]at D;cases D
 cases ad
 obtain⟨a7,bF⟩:=Zeg.1 D
 obtain⟨ch,bb,cf,rfl,aC⟩:=bf k a7
 rw[bF]at aC
 have aV:=Aa (Og (pre:=[_,_]) bb) aq bX
 obtain⟨ci,cj,ad,c5,h0 | ⟨bK,bC,rfl,bM,b3⟩⟩:=bP.out
 ·rw[h0]at am;cases am
 cases ad
 obtain⟨bs,bJ⟩:=Zeg.1 am
 obtain⟨ck,aK,bB⟩:=b3 k bs
 cases bB
 rw[bJ]at aK
 have bH:=Aa aK aq bM
 have bR:=Zaa (B2.Ab.mono (B2.Ab.below aC aq) aq.size)
 have aD:=Dr.Ab.mono (Dr.Ab.below b8.out ag) ag.size
 obtain⟨c2,cA,ad,cb,h0 | ⟨aR,aF,rfl,cq,bE⟩⟩:=id aD
 ·rw[h0]at af;simp at af;omega
 cases ad
 have bA:st.Bd≠[]:=fun e=>by rw[e]at af;simp at af;omega
 have aH:=Afe aD bA (Nat.le_of_lt bv) af
 rw[<-aM]at aH
 have ar:sub=i - f:=by rw[aM];simp;omega
 have bG:sub.length<=512:=yE
 have bW:sub≠[]:=fun e=>by rw[e]at ar;simp at ar;omega
 have b6:=Zaa fun(X:zN) (az:Below a0 a0 X) (cs:zP) (bO:Bo X X q.Bu cs)=>Afv q.Bu (b7.out q (Zax D)).1 (b7.out q (Zax D)).2 be sub bG bW aW M bh aX (some ⟨aR,aF+f,none⟩) (aw - f) cs X X (Zab _) (by
  rw[ar];exact Dr.Ab.mono (Dr.Ab.below aH az) az.size) bO
 rw[ar]at b6
 have c4:(k:Int) < (Eg x.Ai).length:=yE
 have cd:(k:Int) < (Gu x.Ai 0).length:=yE
 have c7:(f:Int)<=i:=yE
 have c9:(i:Int)<=aw:=yE
 have ca:¬aw=f:=yE
 have cc:(i:Int)<=st.Bd.length:=yE
 have cB:=aV
 clear bf b3 bb aK bE b8 aD aH aW bh aX be D am hit aM
 obtain⟨z0,aA,z2,z3,z4,z5,aL,aS,aU,aT,rfl⟩:=Ue aC
 have bD:=an.lt
 clear a6 ax ah ao ap
 obtain⟨T,aJ⟩:∃T,T=aY.heap.size:=⟨_,rfl⟩
 rw[<-aJ]at an bD
 rw[<-aJ]
 clear aJ
 have O:Below a0 a0 (a0.drewN 1):=Bk (Zai _ _) 1 (Zab _)
 refine Ce [(0,.inl none),(1,.inl none),(2,.inl (some 0)),(3,.inl none),(4,.inl none),(5,.inl (some 0)),(6,.inl none),(7,.inl none),(8,.inl none),(9,.inl (some 0)),(10,.inl none),(11,.inl (some 0)),(12,.inl none),(13,.inl (some 0)),(14,.inl none),(15,.inr ([],[])),(16,.inl none),(17,.inl none),(18,.inl none),(19,.inl none),(20,.inl none)]
  (fun _ X=>Ar X F 107 [s.Aj,.slice a9 s.An aa,.slice (some ⟨b,o,none⟩) aQ a2,st.state,zK Y,.slice (some ⟨aR,aF,none⟩) st.Bd aw,st.low,st.Az,st.eof,zK mt,bd,.int .u8 st.Ec,st.Es]/\Ar X T 197 [k,f,i]/\X.rangeAt b4 (aZ+k*10+2) [.int .u8 z0,.int .u64 aA,.int .u64 z2,.int .u64 z3,.int .u64 z4,z5,aL,.slice aS aU aT]) [0] yG yG (fun _ _=>⟨bT.drewN 1,an.drewN 1,Aa aV O yE⟩) ?_
 refine Z09 ?_
 have aP:=an.drewN 1
 have aE:=Zaa (B2.Ab.mono (B2.Ab.below bR.out O) O.size)
 generalize a0.drewN 1=bo at O aP aE|-
 have bw:=Zaa (b6.out bo O _ aE.out)
 clear aE
 refine Z3t ?_
 refine Ba (.int .i64 k) yI (fun w' A=>?_) (fun K J=>?_)
 ·have G:=A.2.1.cell (j:=0) rfl;go_simp
 (go_simp;refine J _ ?_;clear J K)
 refine Z3t ?_
 refine Gx (v:=.agg ([.int .u8 z0,.int .u64 aA,.int .u64 z2,.int .u64 z3,.int .u64 z4,z5,aL,.slice aS aU aT]:List Value).toArray) rfl (fun W bm=>B6 43 _ rfl b4 (aZ+k*10+2) rfl [.int .u8 z0,.int .u64 aA,.int .u64 z2,.int .u64 z3,.int .u64 z4,z5,aL,.slice aS aU aT] bm.2.2 yG yG) ?_
 iterate 3 (refine Ah (fun K J=>?_);go_simp;refine J _ ?_;clear J K)
 refine Ba (.slice (some ⟨aR,aF,none⟩) st.Bd aw) yI (fun w' A=>?_) (fun K J=>?_)
 ·have G:=A.1.cell (j:=5) rfl;go_simp
 (go_simp;refine J _ ?_;clear J K)
 refine Z2o ?_
 refine Ba (.int .i64 f) yI (fun w' A=>?_) (fun K J=>?_)
 ·have G:=A.2.1.cell (j:=1) rfl;go_simp
 (go_simp;refine J _ ?_;clear J K)
 refine Z2o ?_
 refine Ba (.int .i64 i) yI (fun w' A=>?_) (fun K J=>?_)
 ·have G:=A.2.1.cell (j:=2) rfl;go_simp
 (go_simp;refine J _ ?_;clear J K)
 refine Z2o ?_
 refine A1 rfl (fun K J=>?_)
 go_wp2_with fail
 refine(bw.out).mono ?_
 rintro e ai ⟨cl,rfl,aB,ak⟩
 have bZ:=aP.below ak aP.lt
 obtain⟨a3,a4,rfl,c3⟩:=id aB
 have bU:=Zaa aB
 clear aB
 go_wp2_with fail
 refine Z4v ?_
 clear J K
 refine Z53 ?_
 have b9:=(ag.trans (O.mono ag.size)).trans (ak.mono (Zag ag.size O.size))
 have cn:=O.size
 have ct:=ak.size
 have bI:=Aa (Aa bH O yE) ak yE
 have a8:Below ai ai (ai.drewN 1):=Bk (Zai _ _) 1 (Zab _)
 go_upto_region 4 with fail
 refine Ce [(0,.inl none),(1,.inl none),(2,.inl none),(3,.inl (some 0)),(4,.inl none),(5,.inl (some 0)),(6,.inl none),(7,.inl (some 0)),(8,.inl none),(9,.inr ([],[]))]
  (fun _ X=>Ar X T 197 [k,f,i]/\X.rangeAt bK (bC+k*1) [t]) [0] yG yG (fun _ _=>⟨bZ.drewN 1,Aa bI a8 yE⟩) ?_
 refine Z09 ?_
 generalize ai.drewN 1=H at a8|-
 have aI:=b9.trans (a8.mono b9.size)
 have cu:=a8.size
 have bq:∃V:Nat->Prop,(∀q,P q->V q)/\Bt H V lo F mt Y lb a1 (.int .i64 s.Aj) (.slice a9 s.An aa) (.slice (some ⟨b,o,none⟩) s.Ac a2) st/\A0 H V s [s.Aj,.slice a9 s.An aa,.slice (some ⟨b,o,none⟩) s.Ac a2]/\Al Eh 1 H V (Lv sub M) (.slice a3 (Lv sub M).length a4):=
  ⟨fun q=>P q\/w.heap.size<=q/\q<H.heap.size,fun q D=>.inl D,au.out.more aI,A0.Ab.wide (A0.Ab.block br.out (w':=H) fun b U=>aI.block b (au.out.low b U)) (fun q D=>.inl D),(Al.Ab Eh.Ab).wide ((Al.Ab Eh.Ab).block bU.out (w':=H) fun b U=>a8.block b U.2) (fun q D=>.inr ⟨by have:=D.1;omega,by have:=D.2;omega⟩)⟩
 obtain⟨V,aG,h7,b1,ba⟩:=bq
 have bx:=Zaa (show Calls prog 69 #[zK F,t,i,.slice a3 (Lv sub M).length a4] H fun e ab=>e=.returned (.tuple #[])/\Bt ab V lo F mt Y lb a1 (.int .i64 s.Aj) (.slice a9 s.An aa) (.slice (some ⟨b,o,none⟩) s.Ac a2) aN/\A8 V H ab from bQ.out H V a3 a4 aG h7 b1 ba)
 have ce:(k:Int) < (Gu x.Ai 0).length:=yE
 clear h7 b1 ba
 iterate 3 (refine Ah (fun K J=>?_);go_simp;refine J _ ?_;clear J K)
 refine Ba (.int .i64 k) yI (fun w' A=>?_) (fun K J=>?_)
 ·have G:=A.1.cell (j:=0) rfl;go_simp
 (go_simp;refine J _ ?_;clear J K)
 refine Z2o ?_
 refine Ba (.int .i64 t) yI (fun w' A=>?_) (fun K J=>?_)
 ·have G:=A.2 0 _ rfl
  simp only[Zaf,Zba]at G;go_simp
 (go_simp;refine J _ ?_;clear J K)
 refine Z2o ?_
 refine Ba (.int .i64 i) yI (fun w' A=>?_) (fun K J=>?_)
 ·have G:=A.1.cell (j:=2) rfl;go_simp
 (go_simp;refine J _ ?_;clear J K)
 refine Z2o ?_
 refine A1 rfl (fun K J=>?_)
 go_wp2_with fail
 refine(bx.out).mono ?_
 rintro e cp ⟨rfl,h8,bS⟩
 go_wp2_with fail
 refine Z4v ?_
 clear J K
 refine B1 ?_
 go_wp2_with fail
 go_end0
 have e:=bz.out
 subst e
 exact⟨rfl,h8.Gz aG,(A8.By aI au.out.low).trans (bS.Gz aG)⟩
end
section
open Tryz Go.RowKit Go.Shelf
def Is:Bb:=⟨0,0,0,[],false,1,0,[],64,0,0⟩
theorem Aou (s:Ap) (a4:s.An=[⟨Cq,true,⟨#[]⟩,0⟩]) (cs:zP) (w:zN) (bf:Br w w s cs) (aI:Lz cs w) (aG:Bc) (cp:s.Ac[0]? =some aG) (cu:J0 aG.Ai) (cx:firstM (Eg aG.Ai) [] 1 0=none)
  (A:List Ct) (b1:zO) (b0:Nat) (b2:Bs w w 2 b1 (A.map Ct.cells)) (cZ:A<=b0) (dh:A.length<=100) (bi:∀j,j<A.length->Q6 A j=true) (D:Nat->Bb) (h0:D 0=Is)
  (bo:∀j (aN:j<A.length),Ov s A[j].kind.toNat A[j].byte.toNat (D j).full (D (j+1))) (bO:∀j,j<A.length->(D j).Ec=1) (V:Bc) (bp:s.Ac[(D A).state]? =some V) (dg:(D A).Bd.length<=1000):
  Calls prog 8 #[.agg cs.toArray,.slice b1 A b0] w fun e w'=>∃b4 aO,e=.returned (.tuple #[.agg #[b4,.int .u8 (D A).Ec,.int .i64 (D A).Es,V.name,.string (Dm (D A).Bd),.int .i64 (D A).low,.int .i64 (D A).Az,aO],zE])/\
   Al D6 4 w' (fun b=>b<w') (D A).A5 b4/\Dc w' 0 53 4 aO [Fs (D A).x]/\Below w w w':=by
 have cw:=Zaa bf
 have c5:=Zaa bo
 have c8:=Zaa bO
 have c6:=Zaa b2
 obtain⟨v,u,rfl,⟨cD,ab,rfl,aP,aE⟩,⟨aA,a6,rfl,df⟩⟩:=bf
 rw[a4]at aP aE aI|-
 rcases aE with aE | ⟨ae,aa,rfl,bE,av⟩
 ·cases aE
 obtain⟨vcs,av,cm⟩:=av 0 yF
 cases cm
 rw[Zgl,Zaf]at av
 simp only[Zao,Zav,Zac]at aI aP|-
 obtain⟨bT,al,af,b7,ar,bJ⟩:=Fk w [s.Aj,.slice (some ⟨ae,aa,none⟩) 1 ab,.slice aA s.Ac a6] zW 30 62
 have d0:=af.cell (j:=0) rfl
 have d1:=af.cell (j:=1) rfl
 have d2:=af.cell (j:=2) rfl
 have c3:=Zaa (aI bT ar)
 have bL:=Zaa al
 have bq:=Zaa bJ
 have cf:=Zaa fun(X:zN) (a2:Below w w X)=>Tn A b1 b0 X w a2.size yE (b2.below a2 (Zab _)) A (Zab _) (fun j aN=>bi j aN) (fun h=>yE) (-1) 0 (by rw[if_neg yE];exact⟨rfl,rfl⟩)
 have cg:=Zaa fun(X:zN) (a2:Below w w X)=>Ahw 0 ⟨yH,yG⟩ ae aa ab X aP (Zal bE a2.size) (Aa av a2 bE)
 clear al bJ bo bO b2 bi aI
 go_enter func8,ntmps8
 go_upto_region 1 with fail
 have al:=bL.out
 rw[al]
 clear al bL
 go_wp2_with fail
 refine Z0P ?_
 rintro e bU ⟨rfl,au⟩
 have aM:=ar.trans (au.mono ar.size)
 have b8:=af.below au af.lt
 have bc:=b7.below au b7.lt
 clear d0 d1 d2 af b7 au ar c3
 go_wp2_with fail
 refine(cf.out bU aM).mono ?_
 rintro e bX ⟨rfl,aH⟩
 have aL:=aM.trans (aH.mono aM.size)
 have an:=b8.below aH b8.lt
 have aJ:=bc.below aH bc.lt
 clear b8 bc aM aH
 have d1:=an.cell (j:=1) rfl
 go_wp2_with fail
 refine(cg.out bX aL).mono ?_
 rintro e Y ⟨a7,lb,ah,rfl,N1,de,d9,dd,ak⟩
 have aR:=aL.trans (ak.mono aL.size)
 have bM:=an.below ak an.lt
 have bI:=aJ.below ak aJ.lt
 have da:=an.lt
 have cT:=aJ.lt
 have d4:=ak.size
 clear an aJ aL ak d1
 go_wp2_with fail
 refine(Aip Y).mono ?_
 rintro e a5 ⟨rfl,bK⟩
 obtain⟨cW,be,bG,aw,ba⟩:=Bx Y (Oj 64 0) 152
 rw[be]at bK
 subst bK
 have aq:=bM.below aw bM.lt
 have bN:=bI.below aw bI.lt
 have d0:=aq.cell (j:=0) rfl
 have d1:=aq.cell (j:=1) rfl
 have d2:=aq.cell (j:=2) rfl
 have c0:Y.heap.size<a5:=yE
 clear be ba
 go_upto_region 9 with fail
 obtain⟨ad,bH,bm,ay,ap,d7⟩:=Fk a5 [s.Aj,.slice (some ⟨ae,aa,none⟩) 1 ab,.slice aA s.Ac a6,zE,zK a7,zH,zE,zE,zA,zK Y,zH,.int .u8 1,zE] [zK a5] 107 105
 rw[bH]
 clear bH d0 d1 d2
 have cB:=bq.out
 have ba:=aw.size
 have b3:=aw.trans (ap.mono ba)
 have aB:=aR.trans (b3.mono aR.size)
 have bz:=N1.C4 (A8.By (P:=fun b=>b<Y) b3 (fun _ h=>h)) (by obtain⟨_,_,_,U,_⟩:=N1.box;exact U.lt) rJ (by obtain⟨_,_,hm⟩:=N1.map;exact(Zbx.1 hm).1)
 have cO:a7<Y:=by obtain⟨_,_,_,U,_⟩:=N1.box;exact U.lt
 have cK:lb<Y:=rJ
 have cM:ah<Y:=by obtain⟨_,_,hm⟩:=N1.map;exact(Zbx.1 hm).1
 have bv:=bG.below ap c0
 have cn:=aR.size
 have c1:∃P:Nat->Prop,(∀k,k<w.heap.size->P k)/\P w.heap.size/\P (w+1)/\P (a5+1)/\Bt ad P ad a5 Y a7 lb ah (.int .i64 s.Aj) (.slice (some ⟨ae,aa,none⟩) 1 ab) (.slice aA s.Ac a6) Is:=
  ⟨fun k=>k<w.heap.size\/k=w.heap.size\/k=w.heap.size+1\/k=a5.heap.size+1,fun k H=>.inl H,.inr (.inl rfl),.inr (.inr (.inl rfl)),.inr (.inr (.inr rfl)),
   ⟨⟨_,_,bm,⟨none,0,rfl,Zab _,.inl rfl⟩,Au.nil _ _ _ _ _,fun k H=>by cases H⟩,bz,bv,⟨yE,yE,yE,yE,yE,yE,yE,yE,yE,yE⟩,fun k H=>yE,Zab _⟩⟩
 obtain⟨P,aT,bY,cd,ax,h8⟩:=c1
 have az:=A0.Ab.wide (A0.Ab.block cw.out (w':=ad) fun b U=>aB.block b U) aT
 rw[show s.An.length=1 by rw[a4];rfl]at az
 have bn:=aq.below ap yE
 have bQ:=bN.below ap yE
 obtain⟨G,am⟩:∃G,G=a5.heap.size:=⟨_,rfl⟩
 obtain⟨mt,aZ⟩:∃mt,mt=Y.heap.size:=⟨_,rfl⟩
 rw[<-am,<-aZ]at h8
 rw[<-am]at ay ax
 rw[<-am,<-aZ]
 have cG:=Zaa am
 clear am aZ
 have bh:=ay.cell (j:=0) rfl
 have bk:=Zaa (X8 ad P ad G mt a7 lb ah _ _ _ Is h8 rfl 34 #[zK G] #[] #[zK G] (fun _=>rfl) rfl Is (fun X bb b9 J a2=>Wg s X bb _ _ _ _ _ _ _ _ _ Is.full a2 (A0.Ab.wide (A0.Ab.block az fun b U=>J.block b U) b9) aG cp cu yH cx rfl))
 have cL:=h8.low
 have bt:=Zaa az
 have br:=Zaa ay
 have c9:=Zaa bn
 have cq:=Zaa bQ
 clear aq bN bm bz bv N1 bG b3 ap az ay bn bQ
 go_wp2_with fail
 refine bk.out.mono ?_
 rintro e cY ⟨rfl,h9,bR⟩
 clear bk bh
 go_wp2_with fail
 go_loopw [51] (fun v wr=>∃j:Nat,j<=A.length/\v=.int .i64 j/\Bt wr P ad G mt a7 lb ah (.int .i64 s.Aj) (.slice (some ⟨ae,aa,none⟩) 1 ab) (.slice aA s.Ac a6) (D j)/\A8 P ad wr) (fun v _=>A.length - (intOf v).toNat)
 case atStart=>exact⟨0,Zap _,rfl,by rw[h0];exact h9,bR⟩
 case round=>
  obtain⟨j,aN,rfl,M,H⟩:=hrel;rcases Zga j A.length with ao | cX
  ·have cF:(j:Int) <A.length:=by omega
   have ag:=H.box br.out ax;have cH:=ag.lt;have aQ:=c5.out j ao;have cl:=c8.out j ao;rcases c6.out with bC | ⟨aK,c4,rfl,bD,bg⟩
   ·rw[Zbr]at bC;rw[bC]at ao;simp at ao
   have aC:=(bg j xX).1;rw[Zbh]at aC;generalize A[j]=y at aC aQ;have aX:wr.rangeAt aK (c4+j*2) (Ct.cells y):=Ag aC ((H.block aK (aT aK bD)).trans (aB.block aK bD));have d0:=aX 0 _ rfl;have d1:=aX 1 _ rfl;rw[Zaf]at d0;obtain⟨bW,cv,b6,aj,cz⟩:=Bx wr [y.kind,y.byte] 55;have c7:=Zaa (X8 bW _ _ _ _ _ _ _ _ _ _ _ (M.more aj) cl 35 #[] #[zK wr,zK (G+1)] #[zK wr,zK (G+1)] (fun _=>rfl) rfl (D (j+1)) (fun X bb b9 J a2=>aQ X bb _ _ _ _ _ _ _ _ _ wr (G+1) a2 (A0.Ab.wide (A0.Ab.block bt.out fun b U=>(J.block b (.inl U)).trans ((aj.block b (M.low b U)).trans (H.block b U))) (fun q ai=>b9 q (.inl ai))) (J.box b6 (.inr ⟨Zab _,b6.lt⟩)) (J.box (ag.below aj ag.lt) (.inl ax))));have bh:=(ag.below aj ag.lt).cell (j:=0) rfl;have cA:=H.trans (A8.By aj M.low);have cS:=M.low;clear b6 cz aC aX aQ bg M H ag;go_upto_region 13 with fail
   clear cv d0 d1;go_wp2_with fail
   refine c7.out.mono ?_;rintro e d6 ⟨rfl,hy,ci⟩;go_wp2;exact⟨⟨j+1,ao,yK,hy.Gz fun q ai=>.inl ai,cA.trans (ci.Gz fun q ai=>.inl ai)⟩,xJ⟩
  obtain rfl:j=A.length:=by omega
  have cE:¬((A.length:Int) <A.length):=yE;have bA:=A0.Ab.block bt.out fun b U=>H.block b U
  obtain⟨db,dc,b,o,d8,cr,rc,-,-,ca,cP,co,ck,-⟩:=Ku bA bp;cases ca;have ch:=H.box c9.out bY;have ce:=H.box br.out ax;have bP:=H.box cq.out cd;obtain⟨⟨cC,b4,U,bF,he,bx⟩,-⟩:=id M;obtain⟨b5,O,rfl,cy⟩:=Md bF;obtain⟨a0,a1,rfl,cJ⟩:=he.shape;have ac:Below wr wr (wr.drewN 1):=Bk (Zai _ _) 1 (Zab _);have cj:=M.low b co;have bw:=Zaa (Va (wr.drewN 1) a7 lb ah _ (M.below ac).store);have d5:=(Zeg.1 bp).1;have cQ:((D A).state:Int) <s.Ac.length:=yE;have aW:=he.below D6.Ab ac (Zab _);have aD:=H.trans (A8.By ac M.low);have d3:=M.lo;have aU:=bP.drewN 1;clear bF bx bA he;go_upto_region 15 with fail
  refine Ce [(0,.inl (some 0)),(1,.inl none),(2,.inl none),(3,.inl (some 0)),(4,.inl none),(5,.inl (some 0)),(6,.inl (some 0)),(7,.inl none),(8,.inl none),(9,.inl (some 0)),(10,.inl none),(11,.inl none),(12,.inl (some 0)),(13,.inl (some 0)),(14,.inl none),(15,.inl none),(16,.inl (some 0)),(17,.inl (some 0)),(18,.inl (some 0)),(19,.inl none),(20,.inl none),(21,.inl (some 0)),(22,.inl (some 0)),(23,.inl none),(24,.inl none),(25,.inl (some 0)),(26,.inl none),(27,.inr ([],[0])),(28,.inl none),(29,.inr ([],[])),(30,.inl none)]
   (fun _ X=>Ar X (G+1) 105 [zK G]/\Ar X G 107 [s.Aj,.slice (some ⟨ae,aa,none⟩) 1 ab,.slice (some ⟨b,o,none⟩) s.Ac a6,.int .i64 (D A).state,zK a7,.slice b5 (D A).Bd.length O,.int .i64 (D A).low,.int .i64 (D A).Az,.bool (D A).eof,zK mt,.slice a0 (D A).A5.length a1,.int .u8 (D A).Ec,.int .i64 (D A).Es]/\Ar X w 30 [s.Aj,.slice (some ⟨ae,aa,none⟩) 1 ab,.slice (some ⟨b,o,none⟩) s.Ac a6]/\X.rangeAt b (o+(D A).state*2) [V.name,.slice cr V.Ai rc]/\Kn X wr (D A).Bd (.slice b5 (D A).Bd.length O)) [0] yG yG (fun _ _=>⟨ce.drewN 1,U.drewN 1,ch.drewN 1,Aa ck ac cj,Dr.Ab.below cy ac⟩) ?_
  refine Z09 ?_;have bS:=ac.size;have cI:=bP.lt;have cN:=M.Mz;generalize wr.drewN 1=wd at ac bw aW aD bS aU|-;refine Ba (.pointer (some ⟨G,0,none⟩)) yI (fun w' F=>?_) (fun K J=>?_)
  ·have T:=F.1.cell (j:=0) rfl;go_simp
  (go_simp;refine J _ ?_;clear J K)
  refine Z3t ?_;refine Gx (v:=.agg #[.slice a0 (D A).A5.length a1,.int .u8 (D A).Ec,.int .i64 (D A).Es]) rfl (fun W aS=>B6 60 _ rfl G 10 rfl [.slice a0 (D A).A5.length a1,.int .u8 (D A).Ec,.int .i64 (D A).Es] (fun j v a4=>by have:=aS.2.1.range (10+j) v (by rw[Nat.add_comm];exact a4);rwa[Zac]at this) yG yG) ?_;refine Z2o ?_;refine Ba (.slice (some ⟨b,o,none⟩) s.Ac a6) yI (fun w' F=>?_) (fun K J=>?_)
  ·have T:=F.2.2.1.cell (j:=2) rfl;go_simp
  (go_simp;refine J _ ?_;clear J K)
  refine Ba (.pointer (some ⟨G,0,none⟩)) yI (fun w' F=>?_) (fun K J=>?_)
  ·have T:=F.1.cell (j:=0) rfl;go_simp
  (go_simp;refine J _ ?_;clear J K)
  refine Z3t ?_;refine Ba (.int .i64 (D A).state) yI (fun w' F=>?_) (fun K J=>?_)
  ·have T:=F.2.1.cell (j:=3) rfl;go_simp
  (go_simp;refine J _ ?_;clear J K)
  refine Z3t ?_;refine Ba (.string V.name) yI (fun w' F=>?_) (fun K J=>?_)
  ·have T:=F.2.2.2.1 0 _ rfl;simp only[Zaf]at T;go_simp
  (go_simp;refine J _ ?_;clear J K)
  refine Ba (.pointer (some ⟨G,0,none⟩)) yI (fun w' F=>?_) (fun K J=>?_)
  ·have T:=F.1.cell (j:=0) rfl;go_simp
  (go_simp;refine J _ ?_;clear J K)
  refine Z3t ?_;refine Ba (.slice b5 (D A).Bd.length O) yI (fun w' F=>?_) (fun K J=>?_)
  ·have T:=F.2.1.cell (j:=5) rfl;go_simp
  (go_simp;refine J _ ?_;clear J K)
  refine Gx (v:=.string (Dm (D A).Bd)) rfl (fun W aS=>by have:=Ms aS.2.2.2.2;go_simp) ?_;refine Ba (.pointer (some ⟨G,0,none⟩)) yI (fun w' F=>?_) (fun K J=>?_)
  ·have T:=F.1.cell (j:=0) rfl;go_simp
  (go_simp;refine J _ ?_;clear J K)
  refine Z3t ?_;refine Ba (.int .i64 (D A).low) yI (fun w' F=>?_) (fun K J=>?_)
  ·have T:=F.2.1.cell (j:=6) rfl;go_simp
  (go_simp;refine J _ ?_;clear J K)
  refine Ba (.pointer (some ⟨G,0,none⟩)) yI (fun w' F=>?_) (fun K J=>?_)
  ·have T:=F.1.cell (j:=0) rfl;go_simp
  (go_simp;refine J _ ?_;clear J K)
  refine Z3t ?_;refine Ba (.int .i64 (D A).Az) yI (fun w' F=>?_) (fun K J=>?_)
  ·have T:=F.2.1.cell (j:=7) rfl;go_simp
  (go_simp;refine J _ ?_;clear J K)
  refine Z2o ?_;refine A1 rfl (fun K J=>?_);go_wp2_with fail
  refine bw.out.mono ?_;rintro e bd ⟨aO,rfl,aY,a3⟩;obtain⟨a8,a9,rfl,cR⟩:=aY.shape;go_wp2_with fail
  refine J _ _ yF (fun _ _ O=>⟨O.1.below a3 O.1.lt,O.2.1.below a3 O.2.1.lt,O.2.2.1.below a3 O.2.2.1.lt,Aa O.2.2.2.1 a3 yE,Dr.Ab.block O.2.2.2.2 fun b U=>a3.block b yE⟩) ?_;clear J K;have aV:=aU.below a3 aU.lt;have ct:=Zaa aV.there;have bs:=Zaa aV;clear aV;refine Z2o ?_;refine A1 rfl (fun K J=>?_);have bu:=aW.below D6.Ab a3 (Zab _);have di:=bs.out.lt;have cn:=aB.size;have cU:=aD.size;have cV:=a3.size;have bB:Below w w bd:=(aB.trans (aD.below aT)).trans (a3.mono yE);have bZ:=Zaa bu;have bl:=Zaa aY;have bj:=Zaa bB;clear bu aY bB U aW aD H M;go_wp2_with (refine Zil rfl 62 _ _ rfl (w.heap.size+1) 0 #[.slice a0 (D A).A5.length a1,.int .u8 (D A).Ec,.int .i64 (D A).Es,V.name,.string (Dm (D A).Bd),.int .i64 (D A).low,.int .i64 (D A).Az,.slice a8 1 a9] rfl rfl ct.out yG yL ?_)
  refine Z4v ?_;clear J K;have hF:=bs.out.fill (vs:=[.slice a0 (D A).A5.length a1,.int .u8 (D A).Ec,.int .i64 (D A).Es,V.name,.string (Dm (D A).Bd),.int .i64 (D A).low,.int .i64 (D A).Az,.slice a8 1 a9]) rfl;have aF:=Ao bd (w+1) [.slice a0 (D A).A5.length a1,.int .u8 (D A).Ec,.int .i64 (D A).Es,V.name,.string (Dm (D A).Bd),.int .i64 (D A).low,.int .i64 (D A).Az,.slice a8 1 a9] 0;generalize bd.setCells (w+1) 0 [.slice a0 (D A).A5.length a1,.int .u8 (D A).Ec,.int .i64 (D A).Es,.string V.name,.string (Dm (D A).Bd),.int .i64 (D A).low,.int .i64 (D A).Az,.slice a8 1 a9]=wf at hF aF|-;refine Z2o ?_;refine B1 ?_;go_wp2_with fail
  have cb:Al D6 4 wf (fun b=>b<wf) (D A).A5 (.slice a0 (D A).A5.length a1):=by
   obtain⟨bV,g1,g2,g3⟩:=bZ.out;have c2:=g1.grown aF (by
    cases a4:(Value.slice a0 (D A).A5.length a1).ownBlock with
    | none=>exact .inl rfl
    | some k=>exact .inr (B4 (by have:=(g1.lt k a4).1;have:=bq.out;omega)))
   exact Au.list D6.Ab ⟨bV,c2,g2,g3⟩
  have cc:Dc wf 0 53 4 (.slice a8 1 a9) [Fs (D A).x]:=by
   have:=bl.out.grown aF (by
    cases a4:(Value.slice a8 [Fs (D A).x].length a9).ownBlock with
    | none=>exact .inl rfl
    | some k=>exact .inr (B4 (by have:=(bl.out.lt k a4).1;omega)))
   exact⟨Du this.1 (Zap _),this.2⟩
  exact Zho (Gc rfl _ _ (w+1) 0 [.slice a0 (D A).A5.length a1,.int .u8 (D A).Ec,.int .i64 (D A).Es,V.name,.string (Dm (D A).Bd),.int .i64 (D A).low,.int .i64 (D A).Az,.slice a8 1 a9] (.int .i64 0) rfl rfl hF.range yG yG) rfl ⟨_,_,rfl,cb,cc,bj.out.grown aF bj.out.size (fun r e=>yM)⟩
end
section
open Tryz Go.RowKit Go.Shelf
def Xg:ByteArray:=⟨#[60,120,62]⟩
def Zx:ByteArray:=⟨#[48]⟩
theorem M9 (s:Ap) (Y:Ef s) (st M:Bb) (x:Bc) (O:s.Ac[st.state]? =some x) (i:Nat) (r:A7) (T:x.Ai[i]? =some r) (take:Nat) (Bv:List ByteArray)
  (a5:1<=st.left) (a9:st.left<=64) (a6:0<=st.used) (U:st.used<=1000000) (a4:st.low<=1000) (a8:st.Bd.length<=512) (a2:take<=st.Bd.length) (W:st.A5.length<=900) (hlen:r.Aw.length<=16) (G:Nat->Bb) (h0:G 0=if r.kind=1\/r.kind=2 then st.one.cut 2 take else st.one)
  (a0:∀a∈r.Aw,a.kind=1\/a.kind=3) (a7:∀(P:zT) (lo D mt F lb A:Nat) (s0 s1 s2:Value) (H:zO) (J:Nat),Acr s P lo D mt F lb A s0 s1 s2 Bv (.slice H Bv J) r.Aw G) (a3:Wv s r (G r.Aw) M):L6 s i take Bv st M:=
 fun w P lo D mt F lb A s0 s1 s2 H J h V a1=>Ako s Y w P lo D mt F lb A s0 s1 s2 st h V x O i r T take Bv H J a1 a5 a9 a6 U a4 a8 a2 W hlen G h0 a0 (a7 P lo D mt F lb A s0 s1 s2 H J) M a3
theorem Je:J0 Db.Ai:=⟨yH,by
 simp only[Db,Zed];exact⟨⟨fun _=>yH,fun e=>absurd e yH⟩,⟨fun e=>absurd e yH,fun _=>rfl⟩,⟨fun e=>absurd e yH,fun e=>absurd e yH⟩,⟨fun e=>absurd e yH,fun e=>absurd e yH⟩,yF⟩,Af7⟩
theorem Ya:J0 G3.Ai:=⟨yH,by
 simp only[G3,Zed];exact⟨⟨fun _=>yH,fun e=>absurd e yH⟩,yF⟩,Af6⟩
theorem Aqj (r:A7) (A:r.A3=Lm) (a:Bb) (h1:a.Bd.length<=512) (h2:firstM Ii a.Bd (a.Bd+1) 0=none) (h3:a.eof=false):Wv A9 r a (a.goes 0):=
 .inr ⟨0,Db,by rw[A];exact M4 97,by rw[A];exact Ae1,rfl,Je,h1,h2,h3,rfl⟩
theorem Ajl (r:A7) (A:r.A3=Jr) (a:Bb) (h1:a.Bd.length<=512) (h2:firstM Tc a.Bd (a.Bd+1) 0=none) (h3:a.eof=false):Wv A9 r a (a.goes 1):=
 .inr ⟨1,G3,by rw[A];exact M4 98,by rw[A];exact W4,rfl,Ya,h1,h2,h3,rfl⟩
theorem Sw (s:Ap) (P:zT) (lo F mt G lb D:Nat) (s0 s1 s2:Value) (Bv:List ByteArray) (J:Value) (H:Nat->Bb):Acr s P lo F mt G lb D s0 s1 s2 Bv J [] H:=fun k A=>by simp at A
structure K2 (st:Bb):Prop where
 l1:1<=st.left
 l2:st.left<=64
 u1:0<=st.used
 u2:st.used<=1000000
 low:st.low<=1000
 Bd:st.Bd.length<=512
 ent:st.A5.length<=900
theorem Aqa (st:Bb) (h:K2 st) (b0:st.state=0) (ct:st.Bd=[122,122]) (he:st.eof=false):L6 A9 1 2 [⟨#[122,122]⟩] st ((st.one.cut 2 2).goes 1):=
 M9 A9 F7.small st _ Db wR 1 Ta rfl 2 _ h.l1 h.l2 h.u1 h.u2 h.low h.Bd vP h.ent yH (fun _=>st.one.cut 2 2) (by rw[if_pos (.inr rfl)]) (by simp[Ta]) (fun P lo D mt F lb A s0 s1 s2 G H=>Sw _ _ _ _ _ _ _ _ _ _ _ _ _ _) (Ajl Ta rfl _ (by simp[Bb.cut,Bb.one,ct]) (by simp only[Bb.cut,Bb.one,ct];exact Ap1) he)
theorem Ap9 (st:Bb) (h:K2 st) (b0:st.state=0):L6 A9 3 0 [] st (st.one.ends 2 3):=
 M9 A9 F7.small st _ Db wR 3 Z0 rfl 0 _ h.l1 h.l2 h.u1 h.u2 h.low h.Bd (Zap _) h.ent yH (fun _=>st.one) (by rw[if_neg yH]) (by simp[Z0]) (fun P lo D mt F lb A s0 s1 s2 G H=>Sw _ _ _ _ _ _ _ _ _ _ _ _ _ _) (.inl ⟨rfl,rfl⟩)
theorem Ap8 (st:Bb) (h:K2 st) (b0:st.state=1) (A:3<=st.Bd.length):L6 A9 0 3 [⟨#[113]⟩] st ((st.one.cut 2 3).ends 2 0):=
 M9 A9 F7.small st _ G3 wR 0 S9 rfl 3 _ h.l1 h.l2 h.u1 h.u2 h.low h.Bd A h.ent yH (fun _=>st.one.cut 2 3) (by rw[if_pos (.inl rfl)]) (by simp[S9]) (fun P lo F mt G lb D s0 s1 s2 H J=>Sw _ _ _ _ _ _ _ _ _ _ _ _ _ _) (.inl ⟨rfl,rfl⟩)
theorem Aqb (st:Bb) (h:K2 st) (b0:st.state=0) (ct:st.Bd=[120,121]) (he:st.eof=false) (a1:st.x<2^64/\D1 st.x=true) (a3:B7 st.x<2^64) (hy:Lq .add (B7 st.x) F8<2^64) (z:Nat) (M:B7 (Lq .add (B7 st.x) F8)=z) (a4:z<2^64/\D1 z=true):
  L6 A9 0 2 [⟨#[120,121]⟩,⟨#[120]⟩] st ((((st.one.cut 2 2).J3 Xg).lets z).goes 0):=by
 refine M9 A9 F7.small st _ Db wR 0 G9 rfl 2 _ h.l1 h.l2 h.u1 h.u2 h.low h.Bd vP h.ent yH (fun k=>match k with | 0=>st.one.cut 2 2 | 1=>(st.one.cut 2 2).J3 Xg | _=>((st.one.cut 2 2).J3 Xg).lets z) (by rw[if_pos (.inl rfl)];rfl) (by
  simp only[G9,Zed];exact⟨.inl rfl,.inr rfl,yF⟩) (fun P lo G mt H lb F s0 s1 s2 O T=>?_) (Aqj G9 rfl _ (by simp[G9,Bb.cut,Bb.one,Bb.J3,Bb.lets,ct]) (by simp only[G9,Zao,Zav,Bb.cut,Bb.one,Bb.J3,Bb.lets,ct];exact Ai2) he)
 intro k A X a0 b cs a7 D a6 hC V W hA
 have a5:=D.low
 have J:=Y7 hC a5
 rcases(show k=0\/k=1 by simp[G9]at A;omega)with rfl | rfl
 ·have:=Ach X a0 lo G mt H lb F s0 s1 s2 _ D b O T _ V W Nv cs hA J A9 G9 (fun i p hp=>⟨Km (.inl ⟨rfl,rfl⟩) i p hp,(F7.small.act Db (by simp[A9,Mb]) G9 (by simp[Db]) Nv (by simp[G9])).2 p (Zax hp)⟩) yH [⟨#[60]⟩,⟨#[120]⟩,⟨#[62]⟩] rfl yH (fun Y U k A=>by
   rcases(show k=0\/k=1\/k=2 by simp[Nv]at A;omega)with rfl | rfl | rfl
   ·exact .inl ⟨rfl,rfl⟩
   ·exact .inr (.inl ⟨rfl,1,rfl,rfl⟩)
   ·exact .inl ⟨rfl,rfl⟩) (by simp only[Bb.cut,Bb.one,Zbj,Zes];have:=h.ent;omega)
  exact this
 have:=Aoh X a0 lo G mt H lb F s0 s1 s2 _ D b O T _ yH V W Abf rfl cs hA J (Amn hC) (Lq .add (B7 st.x) F8) (by rw[M];exact a4) (fun Y es U a2=>Ajj Y X st.x a1 a3 hy es U.size a2)
 rw[M]at this
 exact this
theorem Ai7 (st:Bb) (h:K2 st) (b0:st.state=0) (J:st.Bd=[97,98]) (he:st.eof=false) (U:st.x=0):L6 A9 2 0 [] st ((st.one.J3 Zx).goes 1):=by
 refine M9 A9 F7.small st _ Db wR 2 Ig rfl 0 _ h.l1 h.l2 h.u1 h.u2 h.low h.Bd (Zap _) h.ent yH (fun k=>match k with | 0=>st.one | _=>st.one.J3 Zx) (by rw[if_neg yH];rfl) (by
  simp only[Ig,Zed];exact⟨.inl rfl,yF⟩) (fun P lo V mt F lb D s0 s1 s2 M O=>?_) (Ajl Ig rfl _ (by simp[Ig,Bb.one,Bb.J3,J]) (by simp only[Ig,Zao,Zav,Bb.one,Bb.J3,J];exact Ap0) he)
 intro k A X a4 b cs a8 G a7 hC a2 a3 hA;have a5:=G.low;have W:=Y7 hC a5;obtain rfl:k=0:=by simp[Ig]at A;omega
 have:=Ach X a4 lo V mt F lb D s0 s1 s2 _ G b M O _ a2 a3 Nt cs hA W A9 Ig (fun i p hp=>⟨Km (.inr ⟨rfl,rfl⟩) i p hp,(F7.small.act Db (by simp[A9,Mb]) Ig (by simp[Db]) Nt (by simp[Ig])).2 p (Zax hp)⟩) yH [⟨#[48]⟩] rfl yH (fun Y a1 k A=>by
  obtain rfl:k=0:=by simp[Nt]at A;omega
  refine .inr (.inr ⟨rfl,rfl,fun es Z a0 a6 H=>?_⟩);have T:G5 Z F lb D st.x:=((G.below a1).below a6).store;rw[U]at T;have:=Aa6 Z Y F lb D 0 (B7 0) es H T (Aji Z Y 0 ⟨yH,yG⟩ (by rw[Xq];decide) es H a0) [] M O yF (.inl rfl) (fun _=>rfl) yF yF;simp only[Xq]at this;exact this) (by simp only[Bb.one];have:=h.ent;omega)
 exact this
end
section
open Tryz Go.RowKit Go.Shelf
theorem Q3 (s:Ap) (st F:Bb) (x:Bc) (T:s.Ac[st.state]? =some x) (a3:J0 x.Ai) (a8:st.Bd.length<=512) (k f i:Nat) (hit:firstM (Eg x.Ai) st.Bd (st.Bd+1) 0=some (k,f,i)) (W:f<i) (a7:i<=st.Bd) (q:Nl) (U:(Eg x.Ai)[k]? =some q) (t:Nat) (a0:(Gu x.Ai 0)[k]? =some (t:Int))
  (Y:q.Bu.B3<=1) (sub:zQ) (a4:sub=(st.Bd.take i).drop f) (M:De sub q.Bu 0 0=[sub.length]) (A:List (Int×Int)) (a6:Gw sub q.Bu 0 0 sub (List.replicate q.Bu.B3 (-1,-1))=A) (O:∀p∈A,0<=p.1/\p.1<p.2/\p.2<=sub.length) (hF:L6 s t i (Lv sub A) st F):L3 s st F:=
 fun w P lo H mt J lb G s0 s1 s2 h D=>Alr s w P lo H mt J lb G s0 s1 s2 st h D x T a3 a8 k f i hit W a7 q U t a0 Y sub a4 M A a6 O F (fun X a5 a1 a2 _ V D hC=>hF X a5 lo H mt J lb G s0 s1 s2 a1 a2 V D hC)
theorem Aiu (st:Bb) (h:K2 st) (b0:st.state=0) (ct:st.Bd=[120,121]) (he:st.eof=false) (A:st.x<2^64/\D1 st.x=true) (D:B7 st.x<2^64) (hy:Lq .add (B7 st.x) F8<2^64) (z:Nat) (F:B7 (Lq .add (B7 st.x) F8)=z) (G:z<2^64/\D1 z=true):L3 A9 st ((((st.one.cut 2 2).J3 Xg).lets z).goes 0):=
 Q3 A9 st _ Db wR Je h.Bd 0 0 2 (by rw[ct];exact An3) yH vP ⟨false,false,Rn⟩ rfl 0 rfl yH [120,121] (by rw[ct];rfl) Aqh [(0,1)] Aol yF (by rw[Aql];exact Aqb st h b0 ct he A D hy z F G)
theorem Apt (st:Bb) (h:K2 st) (b0:st.state=0) (ct:st.Bd=[122,122]) (he:st.eof=false):L3 A9 st ((st.one.cut 2 2).goes 1):=
 Q3 A9 st _ Db wR Je h.Bd 1 0 2 (by rw[ct];exact An2) yH vP ⟨false,false,No⟩ rfl 1 rfl yH [122,122] (by rw[ct];rfl) Aqg [] Aok yF (by rw[Aqk];exact Aqa st h b0 ct he)
theorem Apu (st:Bb) (h:K2 st) (b0:st.state=1) (ct:st.Bd=[97,98,113]):L3 A9 st ((st.one.cut 2 3).ends 2 0):=
 Q3 A9 st _ G3 wR Ya h.Bd 0 2 3 (by rw[ct];exact Apz) yH vP ⟨false,true,qR⟩ rfl 0 rfl yH [113] (by rw[ct];rfl) Aqi [] Aom yF (by rw[Aqm];exact Ap8 st h b0 vP)
theorem F6 (st:Bb) (c:UInt8) (F:st.state=0) (A:st.Ec=1) (he:st.eof=false) (G:st.Bd.length<=3) (D:firstM Ii (st.byte c).Bd ((st.byte c).Bd.length+1) 0=none):Ov A9 1 c.toNat st (st.byte c):=
 So _ c _ _ (Wj A9 c st _ (by show(st.Bd.length:Int)≠4;omega) A yE (Ps A9 _ Db (by show A9.Ac[st.state]? =_;rw[F];rfl) Je (by simp[Bb.byte];omega) D he))
theorem O2 (st A:Bb) (c:UInt8) (D:st.Ec=1) (F:st.Bd.length<=3) (h:L3 A9 (st.byte c) A):Ov A9 1 c.toNat st A:=
 So _ c _ _ (Wj A9 c st _ (by show(st.Bd.length:Int)≠4;omega) D yE h)
theorem x_0:(0:Nat) <2^64/\D1 0=true:=⟨yH,yG⟩
theorem x_1:F8<2^64/\D1 F8=true:=⟨yH,yG⟩
theorem x_2:Ub<2^64/\D1 Ub=true:=⟨yH,yG⟩
def K0 (cs:zP) (w:zN) (D:List Ct) (st:Bb) (M:zS):Prop:=
 ∀(X:zN) (H:zO) (G:Nat),Below w w X->Bs X X 2 H (D.map Ct.cells)->D<=G->
  Calls prog 8 #[.agg cs.toArray,.slice H D G] X fun e A=>∃J F,e=.returned (.tuple #[.agg #[J,.int .u8 st.Ec,st.Es,M,.string (Dm st.Bd),st.low,st.Az,F],zE])/\
   Al D6 4 A (fun b=>b<A) st.A5 J/\Dc A 0 53 4 F [Fs st.x]/\Below X X A
theorem Mc (cs:zP) (w:zN) (H:Br w w A9 cs) (A:List Ct) (a3:A.length<=100) (M:∀j,j<A.length->Q6 A j=true) (D:Nat->Bb) (h0:D 0=Is) (O:∀j (a4:j<A.length),Ov A9 A[j].kind.toNat A[j].byte.toNat (D j).full (D (j+1))) (a1:∀j,j<A.length->(D j).Ec=1) (G:Bc) (T:A9.Ac[(D A).state]? =some G) (a2:(D A).Bd.length<=1000):K0 cs w A (D A) G.name:=
 fun X V U F W a0=>Aou A9 rfl cs X (A0.Ab.mono (A0.Ab.below H F) F.size) (fun Y J=>Yb A9 F7 Zo cs Y w (Zag F.size J.size) (A0.Ab.below (A0.Ab.below H F) (J.mono F.size))) Db rfl Je Ai2 A V U W a0 a3 M D h0 O a1 G T a2
def Alb:Bb:=Is
def Agh:Bb:=Alb.full.byte 120
def Ala:Bb:=((((Agh.full.byte 121).one.cut 2 2).J3 Xg).lets F8).goes 0
def Agg:Bb:=Ala.full.byte 120
def Aaz:Bb:=((((Agg.full.byte 121).one.cut 2 2).J3 Xg).lets Ub).goes 0
def Ame:List Ct:=[⟨1,120⟩,⟨1,121⟩,⟨1,120⟩,⟨1,121⟩]
theorem Aq9 (cs:zP) (w:zN) (A:Br w w A9 cs):K0 cs w Ame Aaz Db.name:=
 Mc cs w A Ame yH yH (fun j=>match j with | 0=>Alb | 1=>Agh | 2=>Ala | 3=>Agg | _=>Aaz) rfl (fun j D=>by
  rcases(show j=0\/j=1\/j=2\/j=3 by simp[Ame]at D;omega)with rfl | rfl | rfl | rfl
  ·exact F6 Alb.full 120 rfl rfl rfl yH Abp
  ·exact O2 Agh.full _ 121 rfl yH (Aiu (Agh.full.byte 121) ⟨yH,yH,yH,yH,yH,yH,yH⟩ rfl rfl rfl x_0 (by show B7 0<_;rw[Xq];decide) (by show Lq .add (B7 0) F8<_;rw[Aj1];decide) F8 (by show B7 (Lq .add (B7 0) F8)=_;rw[Aj1,Afd]) x_1)
  ·exact F6 Ala.full 120 rfl rfl rfl yH Abp
  ·exact O2 Agg.full _ 121 rfl yH (Aiu (Agg.full.byte 121) ⟨yH,yH,yH,yH,yH,yH,yH⟩ rfl rfl rfl x_1 (by show B7 F8<_;rw[Afd];decide) (by show Lq .add (B7 F8) F8<_;rw[Aj0];decide) Ub (by show B7 (Lq .add (B7 F8) F8)=_;rw[Aj0,Aoa]) x_2)) yH Db rfl yH
def Ak9:Bb:=Is
def Ak8:Bb:=Ak9.full.byte 97
def Ak7:Bb:=Ak8.full.byte 98
def Ak6:Bb:=Ak7.full.byte 99
def Agf:Bb:=Ak6.full.byte 100
def Aay:Bb:=(Agf.full.cut 3 2).byte 101
def Amd:List Ct:=[⟨1,97⟩,⟨1,98⟩,⟨1,99⟩,⟨1,100⟩,⟨1,101⟩]
theorem Aq8 (cs:zP) (w:zN) (A:Br w w A9 cs):K0 cs w Amd Aay Db.name:=
 Mc cs w A Amd yH yH (fun j=>match j with | 0=>Ak9 | 1=>Ak8 | 2=>Ak7 | 3=>Ak6 | 4=>Agf | _=>Aay) rfl (fun j D=>by
  rcases(show j=0\/j=1\/j=2\/j=3\/j=4 by simp[Amd]at D;omega)with rfl | rfl | rfl | rfl | rfl
  ·exact F6 Ak9.full 97 rfl rfl rfl yH Abr
  ·exact F6 Ak8.full 98 rfl rfl rfl yH Abq
  ·exact F6 Ak7.full 99 rfl rfl rfl yH Ap6
  ·exact F6 Ak6.full 100 rfl rfl rfl yH Ap5
  ·exact So _ 101 _ _ (Ajp A9 101 Agf.full (Agf.full.cut 3 2) _ rfl rfl yH yH rfl yH (Ps A9 _ Db rfl Je yH Ap4 rfl) (Ps A9 _ Db rfl Je yH Ap3 rfl))) yH Db rfl yH
def Ak5:Bb:=Is
def Ak4:Bb:=Ak5.full.byte 97
def Ak3:Bb:=Ak4.full.byte 98
def Age:Bb:=Ak3.full.tick
def Aax:Bb:=(Age.full.tick.one.J3 Zx).goes 1
def Amc:List Ct:=[⟨1,97⟩,⟨1,98⟩,⟨2,0⟩,⟨2,0⟩]
theorem Aq7 (cs:zP) (w:zN) (A:Br w w A9 cs):K0 cs w Amc Aax G3.name:=
 Mc cs w A Amc yH yH (fun j=>match j with | 0=>Ak5 | 1=>Ak4 | 2=>Ak3 | 3=>Age | _=>Aax) rfl (fun j D=>by
  rcases(show j=0\/j=1\/j=2\/j=3 by simp[Amc]at D;omega)with rfl | rfl | rfl | rfl
  ·exact F6 Ak5.full 97 rfl rfl rfl yH Abr
  ·exact F6 Ak4.full 98 rfl rfl rfl yH Abq
  ·exact Pc _ _ _ (Qt A9 Ak3.full _ Db rfl yH yH 2 rfl rfl (.inl ⟨yH,rfl⟩))
  ·exact Pc _ _ _ (Qt A9 Age.full _ Db rfl yH yH 2 rfl rfl (.inr ⟨rfl,Ai7 Age.full.tick ⟨yH,yH,yH,yH,yH,yH,yH⟩ rfl rfl rfl rfl⟩))) yH G3 rfl yH
def Ak2:Bb:=Is
def Ak1:Bb:=Ak2.full.byte 97
def Ak0:Bb:=Ak1.full.byte 98
def Agd:Bb:=Ak0.full.tick
def Agc:Bb:=(Agd.full.tick.one.J3 Zx).goes 1
def Aaw:Bb:=((Agc.full.byte 113).one.cut 2 3).ends 2 0
def Amb:List Ct:=[⟨1,97⟩,⟨1,98⟩,⟨2,0⟩,⟨2,0⟩,⟨1,113⟩]
theorem Aq6 (cs:zP) (w:zN) (A:Br w w A9 cs):K0 cs w Amb Aaw G3.name:=
 Mc cs w A Amb yH yH (fun j=>match j with | 0=>Ak2 | 1=>Ak1 | 2=>Ak0 | 3=>Agd | 4=>Agc | _=>Aaw) rfl (fun j D=>by
  rcases(show j=0\/j=1\/j=2\/j=3\/j=4 by simp[Amb]at D;omega)with rfl | rfl | rfl | rfl | rfl
  ·exact F6 Ak2.full 97 rfl rfl rfl yH Abr
  ·exact F6 Ak1.full 98 rfl rfl rfl yH Abq
  ·exact Pc _ _ _ (Qt A9 Ak0.full _ Db rfl yH yH 2 rfl rfl (.inl ⟨yH,rfl⟩))
  ·exact Pc _ _ _ (Qt A9 Agd.full _ Db rfl yH yH 2 rfl rfl (.inr ⟨rfl,Ai7 Agd.full.tick ⟨yH,yH,yH,yH,yH,yH,yH⟩ rfl rfl rfl rfl⟩))
  ·exact O2 Agc.full _ 113 rfl yH (Apu (Agc.full.byte 113) ⟨yH,yH,yH,yH,yH,yH,yH⟩ rfl rfl)) yH G3 rfl yH
def Akz:Bb:=Is
def Agb:Bb:=Akz.full.byte 120
def Aga:Bb:=Agb.full.over.one.ends 2 3
def Ama:List Ct:=[⟨1,120⟩,⟨3,0⟩]
theorem Aq5 (cs:zP) (w:zN) (A:Br w w A9 cs):K0 cs w Ama Aga Db.name:=
 Mc cs w A Ama yH yH (fun j=>match j with | 0=>Akz | 1=>Agb | _=>Aga) rfl (fun j D=>by
  rcases(show j=0\/j=1 by simp[Ama]at D;omega)with rfl | rfl
  ·exact F6 Akz.full 120 rfl rfl rfl yH Abp
  ·exact Ab0 _ _ _ (Ae4 A9 Agb.full.over _ Db rfl yH (.inr ⟨3,yH,Ap9 Agb.full.over ⟨yH,yH,yH,yH,yH,yH,yH⟩ rfl⟩))) yH Db rfl yH
def Aky:Bb:=Is
def Af9:Bb:=Aky.full.byte 122
def Akx:Bb:=((Af9.full.byte 122).one.cut 2 2).goes 1
def Aav:Bb:=Akx.full.over.ends 3 0
def Al9:List Ct:=[⟨1,122⟩,⟨1,122⟩,⟨3,0⟩]
theorem Aq4 (cs:zP) (w:zN) (A:Br w w A9 cs):K0 cs w Al9 Aav G3.name:=
 Mc cs w A Al9 yH yH (fun j=>match j with | 0=>Aky | 1=>Af9 | 2=>Akx | _=>Aav) rfl (fun j D=>by
  rcases(show j=0\/j=1\/j=2 by simp[Al9]at D;omega)with rfl | rfl | rfl
  ·exact F6 Aky.full 122 rfl rfl rfl yH Ap2
  ·exact O2 Af9.full _ 122 rfl yH (Apt (Af9.full.byte 122) ⟨yH,yH,yH,yH,yH,yH,yH⟩ rfl rfl rfl)
  ·exact Ab0 _ _ _ (Ae4 A9 Akx.full.over _ G3 rfl yH (.inl ⟨yH,rfl⟩))) yH G3 rfl yH
end
end Go.Proofs.YtafmoofknjncpaaGreatDoor
