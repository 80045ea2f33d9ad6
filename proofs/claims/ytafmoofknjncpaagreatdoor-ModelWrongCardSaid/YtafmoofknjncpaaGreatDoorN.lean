/- A part of the proof that ModelWrong holds: its theorems stand as they are typed. -/
import Derived.Test.YtafmoofknjncpaaGreatDoorM
set_option linter.all false
set_option maxRecDepth 100000
set_option maxHeartbeats 8000000
namespace Go.Proofs.YtafmoofknjncpaaGreatDoor
section
open Tryz Go.RowKit Go.Shelf
attribute [local go_sem] Oper.semAt_some
theorem Anx (s:Ap) (F:Ef s) (x:Bc) (A:x∈s.Ac) (r:A7) (D:r∈x.Ai) (a:Dv) (G:a∈r.Aw) (p:Dl) (hp:p∈a.Ay):p.Bw.size<=10000:=(F.act x A r D a G).2 p hp
structure Kj (s:Ap):Prop where
 An:s.An.length<=100
 Ac:s.Ac.length<=1000
 Ay:∀x∈s.Ac,∀r∈x.Ai,∀a∈r.Aw,a.Ay.length<=1000
theorem Am7 (s:Ap) (O:Ef s) (T:Kj s) (p:B9) (hp:H8 s p) (F:zP) (G:Value) (w:zN) (n:Nat) (H:n<=w) (J:Br w n s F) (V:Al (Gk (Al Di 1)) 1 w (fun b=>b<n) (El s) G):
  Calls prog 121 #[.agg F.toArray,G,.agg p.cells.toArray] w fun e w'=>e=.returned (.int .i64 0)/\Below w w w':=by
 cases hp with
 | whole h=>exact Ams s h F G w n H J
 | var i v U h=>exact Aqp s i v U h (by have:=T.An;omega) F G w n H J
 | state i x A h=>exact Amt s i x A h T.Ac F G w n H J
 | Me i k x r A D h=>exact Aob s O i k x r A D h F G w n H J V
 | act i k m x r a A D M h=>exact Aqq s O i k x r A D m a M T.An h (O.act x (Zax A) r (Zax D) a (Zax M)).1 F G w n H J
 | part i k m q x r a p A D M hp h=>exact Aoc s O i k x r A D m q a p M hp T.An h (T.Ay x (Zax A) r (Zax D) a (Zax M)) (Anx s O x (Zax A) r (Zax D) a (Zax M) p (Zax hp)) F G w n H J
theorem Ai5 (l:List H0) (K:Nat) (J:K<l) (a:zO) (cap:Nat) (w:zN) (n:Nat) (T:n<=w.heap.size) (hlen:l.length<=1000000) (D:Bs w n 2 a (l.map H0.cells))
  (iP:∀x∈l,∀args w,(callFunc x.gf args).run prog w=.ok (.enter x.gf args) w)
  (hC:∀i (h:i<l.length),i<=K->∀X,Below w w X->Calls prog l[i].gf l[i].lb X fun e H=>e=.returned (.bool (decide (i=K)))/\Below X X H):
  Calls prog 172 #[.slice a l cap] w fun e w'=>e=.returned (.int .i64 l[K].err)/\Below w w w':=by
 go_enter func172,ntmps172
 go_wp2_with fail
 go_step3
 go_wp2_with fail
 go_step3
 go_wp2_with fail
 go_loopw [3,8] (fun u v wr=>∃i:Nat,i<=K/\u=.int .i64 0/\v=.int .i64 i/\Below w w wr) (fun _ v _=>l.length - (intOf v).toNat)
 case atStart=>exact⟨0,Zap _,rfl,rfl,Zai _ _⟩
 case round=>
  obtain⟨i,F,rfl,rfl,U⟩:=hrel;have ao:i<l.length:=yE;have W:(i:Int) <l.length:=yE;rcases D with e | ⟨b,o,rfl,V,c5⟩
  ·rw[Zbr]at e;rw[e]at ao;simp at ao
  obtain⟨h1,-⟩:=c5 i xX;rw[Zbh]at h1;have dn:=hC i ao F;have kr:=iP l[i] (Zat _);by_cases A:i=K
  ·subst A
   rw[show decide (i=i)=true from yF]at dn;generalize a1:l[i]=x at h1 dn kr|-;obtain⟨err,gf,lb⟩:=x;have M:=Zaa a1;simp only[H0.cells]at h1 dn;have kv:=Zaa dn;refine Z1c ?_;intro d0 d1;clear c5 h1 hC iP a1 dn;have bt:Below w w (wr.alloc (.cells #[err,.func (.func gf) #[] lb] 289)):=U.alloc U.size _;have O:=Ae wr [err,.func (.func gf) #[] lb] 289;go_wp2_with fail
   refine(kv.out _ bt).mono ?_;rintro e a8 ⟨rfl,aa⟩;have c7:Below w w a8:=bt.trans (aa.mono bt.size);have G:=Aa O aa yF 0 _ rfl;simp only[Zac]at G;go_wp2_with fail
   dsimp+zetaDelta only[Exit.noGoto];go_ret;exact⟨by rw[M.out];rfl,c7⟩
  rw[show decide (i=K)=false by simp[A]]at dn;exact Z0H
end
section
open Tryz Go.RowKit Go.Shelf
attribute [local go_sem] Oper.semAt_some
def Ahp (s:Ap) (F:zP) (n:Nat) (w:zN) (K:Nat) (err:Int):Prop:=
 ∀(j:Nat) (h:j< (Ca s).length),j<=K->∀(X:zN) (m:Nat) (A:Value),Below w w X->n<=m->m<=X->Al (Gk (Al Di 1)) 1 X (fun b=>b<m) (El s) A->
  Calls prog 121 #[.agg F.toArray,A,.agg (Ca s)[j].cells.toArray] X fun e D=>e=.returned (.int .i64 (if j=K then err else 0))/\Below X X D
theorem Aib (s:Ap) (a7:Ef s) (ad:zP) (ab n:Nat) (W:zN) (a4:n<=W) (al:Br W n s ad) (M:W.rangeAt ab 0 ad) (K:Nat) (J:K<=(Ca s).length) (err:Int) (cf:err≠0) (hA:Ahp s ad n W K err)
  (m l:Nat) (ae ap:World->Prop) (aJ:At W ae) (h0:ae W)
  (aG:∀X (p:B9),ae X->YieldAt Fence.wide (m - 1) prog l #[.agg (p.cells++[Value.int .i64 err]).toArray] X fun e aA=>e=.returned (.bool false)/\ap aA):
  CallsIn Fence.wide m prog 118 #[.func (.yield l) #[] #[],zK ab] W fun e an=>(∃v,e=.returned v)/\(K< (Ca s).length/\ap an\/K=(Ca s).length/\Below W W an):=by
 have ao:=al
 obtain⟨b4,b7,rfl,⟨aZ,b0,rfl,-⟩,b3,aX,rfl,-⟩:=al
 have ar:=Bm M yF
 have aD:=Zaa (Afo s a7 _ W n a4 ao)
 have aB:=Zaa fun X (h:Below W W X)=>Agi s a7 _ X n (Zag a4 h.size) (A0.Ab.below ao (h.mono a4))
 have hlen:=Tv s a7
 have aM:=Zaa hA
 have T:=M 0 _ rfl
 have V:=M 1 _ rfl
 have O:=M 2 _ rfl
 simp only[Zac]at T V O
 clear hA
 refine Zhp func118 rfl trivial ?_ rfl
 simp only[ntmps118,Zfk,Zao,Zav,Nat.reduceAdd,Nat.reduceSub,Zcb,Zcc,Zff,Zdl,Zau,Zas]
 gi_wp2_with fail
 refine⟨trivial,fun h=>yT,(Zhq.2 aD.out).mono ?_⟩
 rintro e aO ⟨b5,rfl,ai,aa⟩
 obtain⟨aI,aF,rfl,aQ,-⟩:=id ai
 have H:=Aa M aa ar
 have d0:=H 0 _ rfl
 have d1:=H 1 _ rfl
 have d2:=H 2 _ rfl
 simp only[Zac]at d0 d1 d2
 gi_wp2_with fail
 refine⟨trivial,fun h=>yT,(Zhq.2 (aB.out _ aa)).mono ?_⟩
 rintro e a3 ⟨aY,rfl,aq,G⟩
 obtain⟨aV,aT,rfl,b6,av⟩:=aq.at
 have a1:=aa.trans (G.mono aa.size)
 have aL:=(Al.Ab (Gk.Ab (Al.Ab Di.Ab))).mono ((Al.Ab (Gk.Ab (Al.Ab Di.Ab))).below ai G) G.size
 have aH:=Aa H G xA
 clear T V O d0 d1 d2 H
 gi_wp2_with fail
 clear ai aa G aq
 gi_loopw [12] (fun v wr=>∃j:Nat,j<=K/\v=.int .i64 j/\Below a3 a3 wr) (fun v _=>(Ca s).length - (intOf v).toNat)
 case atStart=>exact⟨0,Zap _,rfl,Zai _ _⟩
 case round=>
  obtain⟨j,au,rfl,U⟩:=hrel;have D:=a1.trans (U.mono a1.size);by_cases ak:j< (Ca s).length
  ·have aS:(j:Int) < (Ca s).length:=by omega
   obtain⟨b,o,rfl,b2,aW,h1,h2⟩:=av j ak;have aj:=Zaa fun X (a6:Below wr wr X)=>aM.out j ak au X a3 (.slice aI (El s).length aF) (D.trans (a6.mono D.size)) (by have:=a1.size;omega) (by have:=U.size;have:=a6.size;omega) ((Al.Ab (Gk.Ab (Al.Ab Di.Ab))).below aL (U.trans (a6.mono U.size)))
   have af:=Aa aH U (by have:=a1.size;omega);generalize hp:(Ca s)[j]=p at*
   obtain⟨a5,a8,ac,ag,ah⟩:=p;obtain rfl:=h2;have A:=Aa h1 U yE;simp only[B9.cells]at A aj;have d0:=A 0 _ rfl;have d1:=A 1 _ rfl;have d2:=A 2 _ rfl;have d3:=A 3 _ rfl;have d4:=A 4 _ rfl;have T:=af 0 _ rfl;have V:=af 1 _ rfl;have O:=af 2 _ rfl;simp only[Zaf,Zac]at d0 T V O;have aR:ab<wr:=by have:=D.size;omega
   have aK:=Ae wr [a5,a8,ac,ag,ah] 142;have F:Below wr wr (wr.alloc (.cells #[a5,a8,ac,ag,ah] 142)):=Af _;by_cases a9:j=K
   ·have a0:=Zaa (aj.out _ F)
    rw[if_pos a9]at a0;subst a9;have aU:(err==0)=false:=vO;gi_wp2_with fail
    refine⟨trivial,fun h=>yT,(Zhq.2 a0.out).mono ?_⟩;rintro e am ⟨rfl,a2⟩;have n6:=F.trans (a2.mono F.size);have Y:=Aa aK a2 yF;have aC:=Y 0 _ rfl;have ay:=Y 1 _ rfl;have ax:=Y 2 _ rfl;have aE:=Y 3 _ rfl;have aN:=Y 4 _ rfl;simp only[Zac]at aC ay ax aE aN;clear d0 d1 d2 d3 d4 T V O;obtain⟨fn,tmps,assign,body,hy,aw⟩:=aG am ⟨a5,a8,ac,ag,ah⟩ (aJ.below h0 (D.trans (n6.mono D.size)) (Zab _));simp only[B9.cells,Zas,Zau]at hy;gi_wp2_with fail
    refine⟨fun h=>yT,aw.mono ?_⟩;rintro e aP ⟨rfl,az⟩;gi_wp2_with fail
    exact⟨_,Zid rfl _ _ _,⟨_,rfl⟩,.inl ⟨ak,az⟩⟩
   have a0:=Zaa (aj.out _ F);rw[if_neg a9]at a0;gi_wp2_with fail
   refine⟨trivial,fun h=>yT,(Zhq.2 a0.out).mono ?_⟩;rintro e am ⟨rfl,a2⟩;have n6:=F.trans (a2.mono F.size);gi_wp2_with fail
   refine⟨(fun f h=>yX),?_⟩;gi_wp2_with fail
   exact Z3g
  obtain rfl:j=(Ca s).length:=by omega
  have b1:¬(((Ca s).length:Int) < (Ca s).length):=yE;gi_wp2_with fail
  exact⟨_,Zid rfl _ _ _,⟨_,rfl⟩,.inr ⟨yE,D⟩⟩
end
section
open Tryz Go.RowKit Go.Shelf
attribute [local go_sem] Oper.semAt_some
theorem Adr (cs:zP) (w:zN):
  Calls prog 88 #[.agg cs.toArray] w fun e w'=>e=.returned (.func (.func 118) #[] #[zK w])/\w.alloc (.cells cs.toArray 30)=w':=by
 go_enter func88,ntmps88
 go_wp2
 exact Z0K
theorem Tk (tmps:Array Value) (w:zN) (b1 b2:Nat) (p:B9) (err:Int) (h1:tmps.getD 2 undef=.pointer (some ⟨b1,0,none⟩)) (h2:tmps.getD 3 undef=.pointer (some ⟨b2,0,none⟩)) (F:w.rangeAt b1 0 p.cells) (H:w.cell? ⟨b2,0,none⟩=some (.int .i64 err)):
  (results f60 tmps).run prog w=.ok (.tuple #[.agg p.cells.toArray,err]) w:=by
 obtain⟨d,hu,T⟩:∃d,prog.underlying 142=some d/\d.isRow=true:=by
  have:(prog.underlying 142).map (·.isRow)=some true:=yG;cases A:prog.underlying 142 with
  | none=>rw[A]at this;cases this
  | some d=>rw[A]at this;exact⟨d,rfl,by simpa using this⟩
 have D:(prog.info? 142).map (·.size)=some 5:=yG
 have M:(isAgg 63).run prog w=.ok false w:=by
  have hu:prog.underlying 63=some (.int .i64):=yG;exact Z25
 have J:(loadVar 63 ⟨b2,0,none⟩).run prog w=.ok (.int .i64 err) w:=by
  simp[loadVar,Zgv,Result.andThen,M,H]
 rw[Zbv]at h1 h2
 have G:f60.results=#[.cell 2 142,.cell 3 63]:=rfl
 have O:=Zif w b1 0 142 p.cells d F hu T D
 simp only[results,G]
 simp[Zgv,Result.andThen,h1,h2,asAddr,O,J]
theorem Mq {B b:Nat} {cs:Array Value} {t:TypeId} {z:Nat×Nat}:At B fun w=>w.heap[b]? =some (.cells cs t z):=fun A C row h D a6=>
 (D.block b (Zbx.1 h).1 (fun e=>sV)).trans h
theorem Y6 (X w:zN) (A D F G H err:Int) (B:Nat) (a8:w+3<=B) (nw:X.heap[w.heap.size+1]? =some (.cells #[zE,zE,zE,zE,zE] 142 (0,0))) (a3:X.heap[w.heap.size+2]? =some (.cells #[zE] 63 (0,0))) (U:Below w w X):
  KeepsFrom B X ((((((X.setCell ⟨w+1,0,none⟩ (.int .i64 A)).setCell ⟨w+1,1,none⟩ (.int .i64 D)).setCell ⟨w+1,2,none⟩ (.int .i64 F)).setCell ⟨w+1,3,none⟩ (.int .i64 G)).setCell ⟨w+1,4,none⟩ (.int .i64 H)).setCell ⟨w+2,0,none⟩ (.int .i64 err)).drew/\True/\(Code.ret=Code.ret/\∃p:B9,((((((X.setCell ⟨w+1,0,none⟩ (.int .i64 A)).setCell ⟨w+1,1,none⟩ (.int .i64 D)).setCell ⟨w+1,2,none⟩ (.int .i64 F)).setCell ⟨w+1,3,none⟩ (.int .i64 G)).setCell ⟨w+1,4,none⟩ (.int .i64 H)).setCell ⟨w+2,0,none⟩ (.int .i64 err)).drew.rangeAt (w+1) 0 p.cells/\
   ((((((X.setCell ⟨w+1,0,none⟩ (.int .i64 A)).setCell ⟨w+1,1,none⟩ (.int .i64 D)).setCell ⟨w+1,2,none⟩ (.int .i64 F)).setCell ⟨w+1,3,none⟩ (.int .i64 G)).setCell ⟨w+1,4,none⟩ (.int .i64 H)).setCell ⟨w+2,0,none⟩ (.int .i64 err)).drew.cell? ⟨w+2,0,none⟩=some (.int .i64 err)/\
   Below w w ((((((X.setCell ⟨w+1,0,none⟩ (.int .i64 A)).setCell ⟨w+1,1,none⟩ (.int .i64 D)).setCell ⟨w+1,2,none⟩ (.int .i64 F)).setCell ⟨w+1,3,none⟩ (.int .i64 G)).setCell ⟨w+1,4,none⟩ (.int .i64 H)).setCell ⟨w+2,0,none⟩ (.int .i64 err)).drew):=by
 have a9:=(Zbx.1 nw).1
 have a7:=(Zbx.1 a3).1
 obtain⟨Y,O⟩:=zL (X.setCells (w+1) 0 [A,D,F,G,H])
 have J:=Ao X (w+1) [A,D,F,G,H] 0
 have a1:X.there (w+1) 0 5:=by
  intro j a5;refine⟨?_,xU⟩;simp only[World.cell?,nw]
  match j,a5 with
  | 0,_ | 1,_ | 2,_ | 3,_ | 4,_=>rfl
 have W:=Zar X (w+1) 0 [A,D,F,G,H] a1
 have e:((((X.setCell ⟨w+1,0,none⟩ (.int .i64 A)).setCell ⟨w+1,1,none⟩ (.int .i64 D)).setCell ⟨w+1,2,none⟩ (.int .i64 F)).setCell ⟨w+1,3,none⟩ (.int .i64 G)).setCell ⟨w+1,4,none⟩ (.int .i64 H)=Y:=O
 rw[e]
 rw[O]at J W
 clear e O a1
 have a6:Boxed Y (w+2) 63 (.int .i64 0):=(J.block _ a7 yF).trans a3
 have a2:=a6.set (.int .i64 err)
 have T:=As Y (w+2) 0 (.int .i64 err)
 have a4:(Y.setCell ⟨w+2,0,none⟩ (.int .i64 err)).rangeAt (w+1) 0 [A,D,F,G,H]:=Ag W (T.block _ (by have:=J.size;omega) yF)
 have M:Below w w (Y.setCell ⟨w+2,0,none⟩ (.int .i64 err)):=(U.grown J U.size (fun r e=>yM)).grown T (by have:=U.size;have:=J.size;omega) (fun r e=>yM)
 have V:KeepsFrom B X (Y.setCell ⟨w+2,0,none⟩ (.int .i64 err)):=(Zda J (fun j e=>yM)).trans (Zda T (fun j e=>yM))
 generalize Y.setCell ⟨w+2,0,none⟩ (.int .i64 err)=Z at a2 a4 M V|-
 have a0:Z.grownBy Z.drew none:=⟨rfl,rfl,rfl,Zab _,fun _ _ _=>rfl⟩
 exact⟨V.trans (Zda a0 (fun j e=>yW)),trivial,rfl,⟨A,D,F,G,H⟩,a4,a2.cell,M.grown a0 M.size (fun r e=>yW)⟩
theorem Ajq (s:Ap) (aL:Ef s) (az:zP) (w:zN) (n:Nat) (ag:n<=w) (aK:Br w n s az) (K:Nat) (J:K<=(Ca s).length) (err:Int) (b9:err≠0) (hA:Ahp s az n w K err) (E:Int) (aj:E=if K< (Ca s).length then err else 0):
  Calls prog 60 #[.agg az.toArray] w fun e w'=>∃p:B9,e=.returned (.tuple #[.agg p.cells.toArray,E])/\Below w w w':=by
 have aG:=aK
 obtain⟨bz,bD,rfl,⟨a2,a3,rfl,-⟩,a4,a0,rfl,-⟩:=aK
 obtain⟨T,af⟩:=zL (w.alloc (.cells #[s.Aj,.slice a2 s.An a3,.slice a4 s.Ac a0] 30))
 obtain⟨V,aa⟩:=zL (T.alloc (.cells #[zE,zE,zE,zE,zE] 142))
 obtain⟨wc,a9⟩:=zL (V.alloc (.cells #[zE] 63))
 obtain⟨G,ad⟩:=zL (wc.alloc (.cells yC 142))
 have au:T.heap.size=w+1:=by rw[<-af];simp
 have av:V.heap.size=w+2:=by rw[<-aa];simp[au]
 have aw:wc.heap.size=w+3:=by rw[<-a9];simp[av]
 have aP:G.heap.size=w+4:=by rw[<-ad];simp[aw]
 have aY:Below w w T:=by rw[<-af];exact Af _
 have aZ:Below T T V:=by rw[<-aa];exact Af _
 have b2:Below V V wc:=by rw[<-a9];exact Af _
 have aD:Below wc wc G:=by rw[<-ad];exact Af _
 have ar:Below V V G:=b2.trans (aD.mono yE)
 have aq:Below T T G:=aZ.trans (ar.mono yE)
 have ax:Below w w G:=aY.trans (aq.mono yE)
 have ab:G.rangeAt w 0 [s.Aj,.slice a2 s.An a3,.slice a4 s.Ac a0]:=Aa (by rw[<-af];exact Ae w _ _) aq yE
 have aR:G.heap[w.heap.size+1]? =some (.cells #[zE,zE,zE,zE,zE] 142 (0,0)):=(ar.block _ yE).trans (by rw[<-aa,<-au];exact Zhe T _)
 have aU:G.heap[w.heap.size+2]? =some (.cells #[zE] 63 (0,0)):=(aD.block _ yE).trans (by rw[<-a9,<-av];exact Zhe V _)
 have aS:G.rangeAt (w+3) 0 top.cells:=by rw[<-ad,<-aw];exact Ae wc top.cells _
 have bj:=Zaa (Rd s aL _ G n yE (A0.Ab.below aG (ax.mono ag)))
 have d0:=ab 0 _ rfl
 have d1:=ab 1 _ rfl
 have d2:=ab 2 _ rfl
 simp only[Zac]at d0 d1 d2
 have hw:(((w.alloc (.cells #[s.Aj,.slice a2 s.An a3,.slice a4 s.Ac a0] 30)).alloc (.cells #[zE,zE,zE,zE,zE] 142)).alloc (.cells #[zE] 63)).alloc (.cells yC 142)=G:=by rw[af,aa,a9,ad]
 clear af aa a9 ad au av aw aY aZ b2 aD ar aq
 refine Z4f ?_
 refine Zhp func60 rfl trivial ?_ rfl
 simp only[ntmps60,Zfk,Zao,Zav,Nat.reduceAdd,Nat.reduceSub,Zcb,Zcc,Zff,Zdl,Zau,Zas]
 refine Zii.2 ?_
 go_wp2_with fail
 refine bj.out.mono ?_
 rintro e M ⟨rfl,O⟩
 rw[aP]at O
 have ai:=Aa ab O yE
 have b0:Below w w M:=ax.trans (O.mono yE)
 have bm:=O.size
 rw[aP]at bm
 have aN:=(O.block (w+1) yE).trans aR
 have aO:=(O.block (w+2) yE).trans aU
 have aQ:=Aa aS O yE
 clear d0 d1 d2 hw
 have d0:=ai 0 _ rfl
 have d1:=ai 1 _ rfl
 have d2:=ai 2 _ rfl
 simp only[Zac]at d0 d1 d2
 have bA:w.heap.size<M:=yE
 clear ab aR aU aS ax O
 go_wp2_with fail
 refine(Adr [s.Aj,.slice a2 s.An a3,.slice a4 s.Ac a0] _).mono ?_
 rintro e F ⟨rfl,cr⟩
 go_wp2_with fail
 have bE:F.heap.size=M+1:=xK
 have ae:Below M M F:=uD
 have al:Below w w F:=b0.trans (ae.mono yE)
 have bp:F.rangeAt M 0 [s.Aj,.slice a2 s.An a3,.slice a4 s.Ac a0]:=by rw[<-cr];exact Ae M _ _
 have ba:=(ae.block (w+1) yE).trans aN
 have bb:=(ae.block (w+2) yE).trans aO
 have bf:=Aa aQ ae yE
 have bF:=A0.Ab.below aG (al.mono ag)
 have hA3:∀X,Below w w X->Ahp s [s.Aj,.slice a2 s.An a3,.slice a4 s.Ac a0] n X K err:=fun X ah j h1 h2 Y m bi aE=>hA j h1 h2 Y m bi (ah.trans (aE.mono ah.size))
 clear cr d0 d1 d2 aN aO aQ ai b0 ae
 have b1:∀(ac:Array Value) (X:zN) (p:B9) (e:Int),X.rangeAt (w+1) 0 p.cells->X.cell? ⟨w+2,0,none⟩=some (.int .i64 e)->Below w w X->X.heap[F.heap.size]? =some (.deferred (some []))->
   ac.getD 2 undef=.pointer (some ⟨w+1,0,none⟩)->ac.getD 3 undef=.pointer (some ⟨w+2,0,none⟩)->
   LeavesInM Fence.wide 5 prog f60 ac (fun r ak=>∃p:B9,r=Ending.returned (.tuple #[.agg p.cells.toArray,e])/\Below w w ak) (marks [F.heap.size]) .returning X:=fun ac X p e h1 h2 h3 h4 h5 h6=>
  Fy (B:=F.heap.size) (Z:=fun W=>W.rangeAt (w+1) 0 p.cells/\W.cell? ⟨w+2,0,none⟩=some (.int .i64 e)/\Below w w W) (Dg.and (I3.and (E3 wW (Zab _))))
   (fun ak h=>⟨_,Tk ac ak _ _ p e h5 h6 h.1 h.2.1,p,rfl,h.2.2⟩) [F.heap.size] X yF (fun D fM=>tU) ⟨h1,h2,h3⟩
 refine(Zii (n:=5)).1 (range_one (gf:=118) (lb:=#[zK M]) rfl (fun _ _=>rfl) (b:=decide (K< (Ca s).length)) (ok:=fun args _=>∃p:B9,args=#[.agg (p.cells++[Value.int .i64 err]).toArray]) (Kp:=fun _ _=>True)
  ?it (fun args X ⟨p,e⟩=>yS) (fun _ _=>trivial) (fun _ _ _ _ _ _ _ _=>trivial)
  (fun X=>X.heap[w.heap.size+1]? =some (.cells #[zE,zE,zE,zE,zE] 142 (0,0))/\X.heap[w.heap.size+2]? =some (.cells #[zE] 63 (0,0))/\X.rangeAt (w+3) 0 top.cells/\Below w w X)
  (fun c X=>c=.ret/\∃p:B9,X.rangeAt (w+1) 0 p.cells/\X.cell? ⟨w+2,0,none⟩=some (.int .i64 err)/\Below w w X)
  (Mq.and (Mq.and (Dg.and (E3 yE (Zab _)))))
  (fun c A C row ⟨e,p,h1,h2,h3⟩ a8 a7=>⟨e,p,Dg A C row h1 a8 a7,I3 A C row h2 a8 a7,E3 yE (Zab _) A C row h3 a8 a7⟩) ⟨ba,bb,bf,al⟩
  (fun am X=>∃(H:Nat) (p:B9) (v0 v1 v4 v6 v7 v8 v9 v10 v11 v12 v13 v14 v15 v16 v17 v18:Value),am={tmps:=#[v0,v1,.pointer (some ⟨w+1,0,none⟩),.pointer (some ⟨w+2,0,none⟩),v4,.pointer (some ⟨H,0,none⟩),v6,v7,v8,v9,v10,v11,v12,v13,v14,v15,v16,v17,v18],defers:=[]}/\X.rangeAt H 0 (p.cells++[Value.int .i64 err])/\w+3<H)
  (fun am A C row ⟨H,p,v0,v1,v4,v6,v7,v8,v9,v10,v11,v12,v13,v14,v15,v16,v17,v18,e,h1,h2⟩ a8 a7=>⟨H,p,v0,v1,v4,v6,v7,v8,v9,v10,v11,v12,v13,v14,v15,v16,v17,v18,e,Dg A C row h1 a8 a7,h2⟩) ?assign ?body ?done ?stop)
 case it=>
  intro m l bg bk W aM bt aW bG aE h0;have aB:=al.trans (aM.mono al.size);refine(Aib s aL [s.Aj,.slice a2 s.An a3,.slice a4 s.Ac a0] M n W (Zag ag aB.size) (A0.Ab.below aG (aB.mono ag)) (Aa bp aM yE) K J err b9 (hA3 W aB) m l bg bk aW h0 (fun X p ah=>by
   obtain⟨fn,tmps,b3,bq,q1,bh⟩:=aE X _ ⟨p,rfl⟩ ah;exact⟨fn,tmps,b3,bq,q1,bh.mono fun e bw ⟨a,b,_⟩=>⟨a,b⟩⟩)).mono ?_
  rintro e ak ⟨aJ,⟨ao,b8⟩ | ⟨heq,U⟩⟩
  ·exact⟨aJ,.inl ⟨xX,b8⟩⟩
  exact⟨aJ,.inr ⟨by simp[heq],aW.below h0 U (Zab _)⟩⟩
 case assign=>
  rintro bl args X bv hI ⟨p,rfl⟩ b7;obtain⟨an,ap,ay,aA,aC⟩:=p;have ao:=Bm hI.2.2.1 (by simp[top,B9.cells]);simp only[B9.cells,Zas,Zau,Zfu,Zfs,Zft,Zeb,Zec,Zfk,Zao,Zav,Zdz,Zea,Zbm,Zfi,Zfj];gi_wp2_with fail
  exact b7 _ _ ((Zdc _ _).from _) trivial ⟨(Mq (B:=0)).new hI.1 _,(Mq (B:=0)).new hI.2.1 _,(Dg (B:=0)).new hI.2.2.1 _,hI.2.2.2.alloc hI.2.2.2.size _⟩ ⟨X,⟨an,ap,ay,aA,aC⟩,_,_,_,_,_,_,_,_,_,_,_,_,_,_,_,_,rfl,Ae X _ _,ao⟩
 case body=>
  rintro bl am X bC hI ⟨H,p,v0,v1,v4,v6,v7,v8,v9,v10,v11,v12,v13,v14,v15,v16,v17,v18,rfl,a1,bB⟩;obtain⟨an,ap,ay,aA,aC⟩:=p;obtain⟨nw,nx,a5,aH⟩:=hI;refine Z2Z ?_;intro d0 d1 d2;have d3:=a1 3 _ rfl;have d4:=a1 4 _ rfl;have d5:=a1 5 _ rfl;simp only[Zac]at d0 d1 d2 d3 d4 d5;refine Z0E ?_;intro dg dm cd et j1 fk f0 f1 f2 f3 f4 f5;have bu:¬w+1=H:=yE;have br:¬w+2=H:=yE;have bs:¬H=w+1:=yE;have bx:¬H=w+2:=yE;gi_wp2_with fail
  gi_region
  all_goals
   gi_wp2_with fail
   exact Y6 X w an ap ay aA aC err F wW nw nx aH
 case done=>
  rintro X bo ⟨nw,nx,a5,aH⟩ aF;have bd:¬K< (Ca s).length:=by simpa using bo
  rw[if_neg bd]at aj;subst aj;have t0:=a5 0 _ rfl;have t1:=a5 1 _ rfl;have t2:=a5 2 _ rfl;have t3:=a5 3 _ rfl;have t4:=a5 4 _ rfl;simp only[Zac,top]at t0 t1 t2 t3 t4;refine Z0E ?_;intro dg dm cd et j1 fk f0 f1 f2 f3 f4 f5;have aX:=Y6 X w (-1) (-1) (-1) (-1) (-1) 0 F wW nw nx aH;obtain⟨Z,bn⟩:=zL ((((((X.setCell ⟨w+1,0,none⟩ (.int .i64 (-1))).setCell ⟨w+1,1,none⟩ (.int .i64 (-1))).setCell ⟨w+1,2,none⟩ (.int .i64 (-1))).setCell ⟨w+1,3,none⟩ (.int .i64 (-1))).setCell ⟨w+1,4,none⟩ (.int .i64 (-1))).setCell ⟨w+2,0,none⟩ (.int .i64 0));rw[bn]at aX;obtain⟨aI,-,-,p,aT,aV,a6⟩:=aX;have bc:Z.heap[F.heap.size]? =some (.deferred (some [])):=aI.same _ _ (Zab _) aF rfl;have b4:Z.rangeAt (w+1) 0 p.cells:=aT;have b5:Z.cell? ⟨w+2,0,none⟩=some (.int .i64 0):=aV;have b6:Below w w Z:=⟨a6.os,a6.tape,a6.output,a6.size,a6.block⟩;clear aI aT aV a6;gi_wp2_with fail
  go_wp2_with fail
  exact b1 _ _ p 0 b4 b5 b6 bc rfl rfl
 case stop=>
  rintro c X hbt ⟨rfl,p,h1,h2,h3⟩ aF;have be:K< (Ca s).length:=by simpa using hbt
  rw[if_pos be]at aj;subst aj;gi_wp2_with fail
  exact b1 _ _ p _ h1 h2 h3 aF rfl rfl
end
section
open Tryz Go.RowKit Go.Shelf
theorem Yc (s:Ap) (a2:Ef s) (F:zP) (w:zN) (n:Nat) (H:n<=w) (M:Br w n s F) (K:Nat) (J:K<=(Ca s).length) (err:Int) (O:err≠0) (hA:Ahp s F n w K err):
  Calls prog 30 #[.agg F.toArray] w fun e w'=>e=.returned (.bool (decide (K=(Ca s).length)))/\Below w w w':=by
 have a0:=M
 obtain⟨ab,ac,rfl,⟨U,V,rfl,-⟩,W,T,rfl,-⟩:=M
 have A:=Af (w:=w) (.cells #[s.Aj,.slice U s.An V,.slice W s.Ac T] 30)
 obtain⟨E,D⟩:∃E:Int,E=if K< (Ca s).length then err else 0:=⟨_,rfl⟩
 have c3:=Zaa (Ajq s a2 _ (w.alloc (.cells #[s.Aj,.slice U s.An V,.slice W s.Ac T] 30)) n (Zag H A.size) (A0.Ab.below a0 (A.mono H)) K J err O (fun j h1 h2 Y m a4 a3=>hA j h1 h2 Y m a4 (A.trans (a3.mono A.size))) E D)
 have a1:(E==0)=decide (K=(Ca s).length):=by
  rw[D];by_cases h:K< (Ca s).length
  ·rw[if_pos h]
   have h1:¬K=(Ca s).length:=yE;simp[h1,O]
  rw[if_neg h];have h1:K=(Ca s).length:=yE;simp[h1]
 rw[<-a1]
 clear a0 hA D a1
 go_enter func30,ntmps30
 go_wp2_with fail
 refine Z0P ?_
 rintro e a5 ⟨⟨a6,a7,a8,a9,aa⟩,rfl,G⟩
 simp only[B9.cells]
 go_wp2_with fail
 go_ret
 exact⟨rfl,(A.trans (G.mono A.size)).alloc (A.trans (G.mono A.size)).size _⟩
theorem Yb (s:Ap) (D:Acn s) (U:Kj s) (A:zP) (w:zN) (n:Nat) (F:n<=w) (G:Br w n s A):
  Calls prog 30 #[.agg A.toArray] w fun e w'=>e=.returned (.bool true)/\Below w w w':=by
 have h:=Yc s D.small A w n F G (Ca s).length (Zab _) 1 yH (fun j h1 h2 X m T H hm M J=>by
  rw[if_neg yE];have O:=A0.Ab.below G (H.mono F);exact Am7 s D.small U _ (D.at_ _ (Zat h1)) A T X m M (A0.Ab.mono O hm) J)
 simpa using h
end
section
open Tryz Go.RowKit Go.Shelf
theorem Acv (b:Nat) (A:Int) (h1:A<2) (w:zN) (D:w.cell? ⟨b,0,none⟩=some (.int .i64 A)):
  Calls prog 175 #[zK b] w fun e w'=>e=.returned (.bool true)/\w'=w:=by
 go_enter func175,ntmps175
 go_wp2_with fail
 refine(Uw _ _ _ _ h1).mono ?_
 exact Z3o
theorem Acu (b:Nat) (a:zO) (c:Nat) (w:zN) (A:w.cell? ⟨b,2,none⟩=some (.slice a 0 c)):
  Calls prog 177 #[zK b] w fun e w'=>e=.returned (.bool true)/\w'=w:=by
 go_enter func177,ntmps177
 go_wp2_with fail
 refine(Uw _ _ _ _ yH).mono ?_
 exact Z3o
theorem M8 (l:List H0) (K:Nat) (J:K<l) (err:Int) (he:l[K].err=err) (w:zN) (k m:Nat) (G:k=w.heap.size) (hm:m=l) (hlen:l.length<=100) (a0:∀x∈l,∀args w,(callFunc x.gf args).run prog w=.ok (.enter x.gf args) w)
  (hC:∀i (h:i<l.length),i<=K->∀X,Below w w X->Calls prog l[i].gf l[i].lb X fun e W=>e=.returned (.bool (decide (i=K)))/\Below X X W):
  Calls prog 172 #[.slice (some ⟨k,0,none⟩) m m] (w.alloc (.cells (l.map H0.cells).flatten.toArray 289)) fun e w'=>e=.returned (.int .i64 err)/\Below w w w':=by
 subst G hm he
 have U:=Af (w:=w) (.cells (l.map H0.cells).flatten.toArray 289)
 have D:∀cs∈l.map H0.cells,cs.length=2:=fun cs Y=>by
  obtain⟨x,_,rfl⟩:=Zfb.1 Y;rfl
 refine(Ai5 l K J _ _ _ (w.heap.size+1) yF yE (.inr ⟨w,0,rfl,yE,fun i A=>⟨fun j v F=>?_,D _ (Zat A)⟩⟩) a0 fun i A T X O=>hC i A T X (U.trans (O.mono yF))).mono ?_
 ·have V:=D _ (Zat A)
  have M:j<2:=by rw[<-V];exact(Zeg.1 F).1
  have:=Ae w (l.map H0.cells).flatten 289 (i*2+j) v (by rw[flat_get _ D i j A M];exact F);rw[show 0+(i*2+j)=0+i*2+j from yE]at this;exact this
 rintro e a1 ⟨rfl,H⟩
 exact⟨rfl,U.trans (H.mono U.size)⟩
theorem Ahv (A:Int) (h:A<2) (a a2:zO) (m m2 c D:Nat) (w:zN):
  Calls prog 145 #[.agg #[A,.slice a2 m2 D,.slice a m c]] w fun e w'=>e=.returned (.int .i64 300)/\Below w w w':=by
 have M:=Ae w [A,.slice a2 m2 D,.slice a m c] 30
 have c0:=Af (w:=w) (.cells #[A,.slice a2 m2 D,.slice a m c] 30)
 have O:=Zaa (M8 [⟨300,175,#[zK w]⟩,⟨302,177,#[zK w]⟩] 0 yF 300 rfl (w.alloc (.cells #[A,.slice a2 m2 D,.slice a m c] 30)) (w+1) 2 yF rfl yF
  (by intro y hy;simp only[Zbc,Zbe,Zic]at hy;rcases hy with rfl | rfl<;>exact fun _ _=>rfl)
  (by
   intro i H F X J;have G:=Aa M J yF
   match i,H,F with
   | 0,_,_=>exact(Acv _ A h X (G 0 _ rfl)).mono fun e w' ⟨h,T⟩=>⟨h,T▸Zai _ _⟩
   | 1,_,F=>exact absurd F yE))
 go_enter func145,ntmps145
 go_wp2_with fail
 refine O.out.mono ?_
 exact Z13
theorem Afj (A:Int) (h1:2<=A) (h2:A<=256) (a a2:zO) (m2 c D:Nat) (w:zN):
  Calls prog 145 #[.agg #[A,.slice a2 m2 D,.slice a 0 c]] w fun e w'=>e=.returned (.int .i64 302)/\Below w w w':=by
 have O:=Ae w [A,.slice a2 m2 D,.slice a 0 c] 30
 have c0:=Af (w:=w) (.cells #[A,.slice a2 m2 D,.slice a 0 c] 30)
 have T:=Zaa (M8 [⟨300,175,#[zK w]⟩,⟨302,177,#[zK w]⟩] 1 yF 302 rfl (w.alloc (.cells #[A,.slice a2 m2 D,.slice a 0 c] 30)) (w+1) 2 yF rfl yF
  (by intro y hy;simp only[Zbc,Zbe,Zic]at hy;rcases hy with rfl | rfl<;>exact fun _ _=>rfl)
  (by
   intro i H M X J;have G:=Aa O J yF
   match i,H,M with
   | 0,_,_=>exact(Aey _ A h1 h2 X (G 0 _ rfl)).mono fun e w' ⟨h,F⟩=>⟨h,F▸Zai _ _⟩
   | 1,_,_=>exact(Acu _ a c X (G 2 _ rfl)).mono fun e w' ⟨h,F⟩=>⟨h,F▸Zai _ _⟩))
 go_enter func145,ntmps145
 go_wp2_with fail
 refine T.out.mono ?_
 exact Z13
theorem Acb (s:Ap) (h:s.Aj<2) (J:zP) (M:Value) (w:zN) (n:Nat) (O:n<=w) (H:Br w n s J):
  Calls prog 121 #[.agg J.toArray,M,.agg yC] w fun e w'=>e=.returned (.int .i64 300)/\Below w w w':=by
 have i0:=H
 obtain⟨T,U,rfl,⟨D,F,rfl,-⟩,G,A,rfl,-⟩:=H
 have el:Below w w ((w.alloc (.cells #[s.Aj,.slice D s.An F,.slice G s.Ac A] 30)).alloc (.cells yC 142)):=(Af _).alloc yF _
 have hr:=Zaa (Ahv s.Aj h G D s.Ac s.An A F ((w.alloc (.cells #[s.Aj,.slice D s.An F,.slice G s.Ac A] 30)).alloc (.cells yC 142)))
 exact Z2I
theorem Zv (s:Ap) (O:s.Ac.length=0) (h1:2<=s.Aj) (h2:s.Aj<=256) (J:zP) (M:Value) (w:zN) (n:Nat) (T:n<=w) (H:Br w n s J):
  Calls prog 121 #[.agg J.toArray,M,.agg yC] w fun e w'=>e=.returned (.int .i64 302)/\Below w w w':=by
 have i0:=H
 obtain⟨U,V,rfl,⟨D,F,rfl,-⟩,G,A,rfl,-⟩:=H
 rw[O]
 have el:Below w w ((w.alloc (.cells #[s.Aj,.slice D s.An F,.slice G 0 A] 30)).alloc (.cells yC 142)):=(Af _).alloc yF _
 have hr:=Zaa (Afj s.Aj h1 h2 G D s.An A F ((w.alloc (.cells #[s.Aj,.slice D s.An F,.slice G 0 A] 30)).alloc (.cells yC 142)))
 exact Z2I
end
section
open Tryz Go.RowKit Go.Shelf
theorem Adc (s:Ap) (i:Nat) (x:Bc) (G:s.Ac[i]? =some x) (ae:Hm x.name) (ai:x.Ai.length<=12) (F:Nat) (a9:F<i) (M:Bc) (U:s.Ac[F]? =some M) (a6:M.name.toList=x.name.toList) (hlen:s.Ac.length<=1000) (D jr bi:Nat) (a:zO) (c:Nat) (u:Value) (W:zN) (n:Nat) (V:n<=W)
  (dg:W.rangeAt D 0 [x.name,.slice a x.Ai c]) (dm:W.cell? ⟨jr,2,none⟩=some u) (hu:Al Cf 2 W (fun b=>b<n) s.Ac u) (cd:W.cell? ⟨bi,0,none⟩=some (.int .i64 i)):
  Calls prog 178 #[zK D,zK jr,zK bi] W fun e w'=>e=.returned (.bool true)/\Below W W w':=by
 obtain⟨ag,ac⟩:=Cw G
 obtain⟨A,bb,H,rfl,am,dn,jv,hI⟩:=hu.rows Cf.len
 have ak:decide ((12:Int) <x.Ai.length)=false:=Zhs yE
 have fv:=Bm dg yF
 have b1:=Jw dm
 have b2:=Jw cd
 have j5:=Zaa (Jt x.name W ae)
 have al:=dg 0 _ rfl
 have T:∀X,Below W W X->Calls prog 179 #[.slice A i bb,.func (.func 180) #[] #[zK D]] X fun e w'=>e=.returned (.bool true)/\Below X X w':=by
  intro X az;have a3:(H.take i).length=i:=yJ;have h:=Yx 180 #[zK D] (fun _ _=>rfl) A bb (H.take i) (fun j=>(s.Ac.map fun y=>y.name.toList==x.name.toList).getD j false) X n xV yE ((jv.take i).below az V) (fun j ah Y ab=>by
   have an:j<i:=yE;obtain⟨v,h1,h2⟩:=hI j yE yE;obtain⟨a0,a2,rfl,_⟩:=h2;rw[Zen,h1];have J:=az.trans (ab.mono az.size);have:=Aaf s.Ac[j].name x.name a0 s.Ac[j].Ai.length a2 D Y (by have:=J.size;omega) (Aa dg J fv 0 _ rfl);have e:(s.Ac.map fun y=>y.name.toList==x.name.toList).getD j false=(s.Ac[j].name.toList==x.name.toList):=by simp[show j<s.Ac from yE]
   rw[e];exact this)
  have a7:(List.range i).any (fun j=>(s.Ac.map fun y=>y.name.toList==x.name.toList).getD j false)=true:=by
   refine Zdh.2 ⟨F,Zfd.2 a9,?_⟩;obtain⟨a1,rfl⟩:=Zeg.1 U;simp[a1,a6]
  rw[a3,a7]at h;exact h
 have cS:=Zaa T
 have aj:(i:Int)<=bb:=yE
 have a4:=dg 0 _ rfl
 have a5:=dg 1 _ rfl
 simp only[Zac]at a4 a5
 have O:A≠none:=by
  exact Z1M
 obtain⟨bf,rfl⟩:∃bf,A=some bf:=by cases A with | none=>exact absurd rfl O | some bf=>exact⟨bf,rfl⟩
 clear T O hI jv G ac
 exact Z0O
theorem Ah0 (s:Ap) (i:Nat) (x:Bc) (a1:s.Ac[i]? =some x) (a0:Hm x.name) (V:x.Ai.length<=12) (F:Nat) (Y:F<i) (D:Bc) (H:s.Ac[F]? =some D) (U:D.name.toList=x.name.toList) (hlen:s.Ac.length<=1000) (cs:zP) (w:zN) (n:Nat) (M:n<=w) (O:Br w n s cs):
  Calls prog 146 #[.agg cs.toArray,i] w fun e w'=>e=.returned (.int .i64 303)/\Below w w w':=by
 obtain⟨v,u,rfl,a7,ko⟩:=O
 obtain⟨J,q2⟩:=Cw a1
 obtain⟨a3,bb,rfl,a9,e2⟩:=ko.at
 obtain⟨b,o,rfl,a6,a5,h1,h2⟩:=e2 i J
 rw[q2]at h2
 obtain⟨ab,rfl,T⟩:=h2
 obtain⟨fp,rc,rfl,_⟩:=T
 refine Z2A ?_
 intro W bm el na c4 dt du
 have hr:=Zaa (M8 [⟨303,178,#[zK (w+2),zK w,zK (w+1)]⟩] 0 yF 303 rfl W (w+3) 1 na.symm rfl yF uM
  (by
   intro q a2 a4 X A;obtain rfl:q=0:=yE;have G:=el.trans (A.mono yE);have:=G.size;exact Adc s i x a1 a0 V F Y D H U hlen _ _ _ fp rc _ X n yE (Aa du A yE) (Aa c4 A yE 2 _ rfl) ((Al.Ab Cf.Ab).below ko (G.mono M)) (Aa dt A yE 0 _ rfl)))
 exact Z3E
def Q1:ByteArray:=⟨#[78,79,78,69]⟩
theorem Ad0 (w:zN):Calls prog 89 #[.string ⟨#[78,79,78,69]⟩] w fun e w'=>e=.returned (.bool false)/\w'=w:=by
 go_enter func89,ntmps89
 exact Z0G
theorem Ww (A D bi:Nat) (W:zN) (G:W.cell? ⟨A,0,none⟩=some (.string ⟨#[78,79,78,69]⟩)):
  Calls prog 173 #[zK A,zK D,zK bi] W fun e w'=>e=.returned (.bool true)/\Below W W w':=by
 go_enter func173,ntmps173
 go_wp2_with fail
 refine(Ad0 _).mono ?_
 rintro e F ⟨rfl,rfl⟩
 exact Z1K
theorem Aaa (s:Ap) (i:Nat) (x:Et) (A:s.An[i]? =some x) (M:x.name=Q1) (hlen:s.An.length<=1000) (cs:zP) (w:zN) (n:Nat) (V:n<=w) (T:Br w n s cs):
  Calls prog 144 #[.agg cs.toArray,i] w fun e w'=>e=.returned (.int .i64 301)/\Below w w w':=by
 obtain⟨v,u,rfl,G,a5⟩:=T
 obtain⟨O,H⟩:=Cw A
 obtain⟨a0,bb,rfl,a7,F⟩:=G.at
 obtain⟨b,o,rfl,a3,a2,h1,h2⟩:=F i O
 rw[H]at h2
 obtain rfl:=h2
 refine Z2D ?_
 intro W bm el na c4 dt du
 have hr:=Zaa (M8 [⟨301,173,#[zK (w+2),zK w,zK (w+1)]⟩] 0 yF 301 rfl W (w+3) 1 na.symm rfl yF uM
  (by
   intro q Y a1 X D;obtain rfl:q=0:=yE;have U:=el.trans (D.mono yE);have:=U.size;have J:=Aa du D yE 0 _ rfl;rw[M]at J;exact Ww _ _ _ X J))
 have d0:=h1 0 _ rfl
 have d1:=h1 1 _ rfl
 have d2:=h1 2 _ rfl
 have d3:=h1 3 _ rfl
 simp only[Zaf]at d0
 have a6:(i:Int) <s.An.length:=yE
 have c2:=Zaa el
 have a4:b<w:=yE
 clear M F G c4 dt du h1 el A H
 subst bm
 go_enter func144,ntmps144
 exact Z0b
theorem Af3 (s:Ap) (J:Ef s) (r:A7) (a7:¬r.A3.toList=[]) (g1:(Er s r.A3).isSome=false) (G F:Nat) (A cs:zP) (W:zN) (n:Nat) (H:n<=W) (a1:W.rangeAt F 0 cs) (hy:W.rangeAt G 0 A) (M:Fo W n r cs) (D:Br W n s A):
  Calls prog 184 #[zK G,zK F] W fun e w'=>e=.returned (.bool true)/\Below W W w':=by
 have hr:=Zaa (Ur s J r.A3 A W n H D)
 obtain⟨ac,af,rfl,⟨a6,a9,rfl,-⟩,ab,a5,rfl,-⟩:=D
 obtain⟨z0,O,z2,z3,z4,z5,a3,T,V,z9,v,rfl,Y,a0,a2,rfl,-⟩:=Bj.open M
 have U:=Bm a1 yF
 have d14:=a1 14 _ rfl
 refine Z3Y ?_
 intro en bz bo
 simp only[Zac]at d14 en bz bo
 generalize ad:r.A3=A3 at*
 generalize Er s A3=st at*
 have ae:(A3.toList==([]:List UInt8))=false:=xZ
 rw[g1]at hr
 generalize((st.getD 0:Nat):Int)=a4 at hr
 go_enter func184,ntmps184
 go_wp2_with fail
 refine Z3m ?_
 intro a8 aa bck bfq
 simp only[Zac]at bck bfq
 clear d14 en bz bo
 exact Z0F
theorem Aks (s:Ap) (T:Ef s) (r:A7) (total:Nat) (Y:Io r) (a1:r.Aw.length<=8) (F:r.kind≠1) (a3:¬r.A3.toList=[]) (V:(Er s r.A3).isSome=false) (a2:r.Bu.size<=10000) (O cs:zP) (w:zN) (n:Nat) (J:n<=w) (M:Br w n s O) (b8:Fo w n r cs):
  Calls prog 147 #[.agg O.toArray,.agg cs.toArray,total] w fun e w'=>e=.returned (.int .i64 306)/\Below w w w':=by
 have a4:Wq r:=⟨a2,fun D=>absurd D F⟩
 have i0:=M
 have qg:=b8
 obtain⟨a5,a6,rfl,⟨ei,ej,rfl,-⟩,hd,e9,rfl,-⟩:=M
 obtain⟨z0,b9,z2,z3,z4,z5,cc,bg,bk,z9,v,rfl,bl,bn,br,rfl,-⟩:=Bj.open b8
 refine Z2x ?_
 intro W bm el na c4 dt du
 have hr:=Zaa (M8 [⟨304,181,#[zK (w+1)]⟩,⟨305,183,#[zK (w+1),zK (w+2)]⟩,⟨306,184,#[zK w,zK (w+1)]⟩] 2 yF 306 rfl W (w+3) 3 na.symm rfl yF
  (by intro y hy;simp only[Zbc,Zbe,Zic]at hy;rcases hy with rfl | rfl | rfl<;>exact fun _ _=>rfl)
  (by
   intro q U a0 X A;have H:=el.trans (A.mono yE);have:=H.size;have G:=Bj.Ab.below qg (H.mono J)
   match q,U,a0 with
   | 0,_,_=>exact Ah9 r Y a4 a1 _ _ X n yE (Aa dt A yE) G
   | 1,_,_=>exact Ah8 r total (fun D=>absurd D F) (fun D=>absurd D F) _ _ _ X n yE (Aa dt A yE) (Aa du A yE) G
   | 2,_,_=>exact Af3 s T r a3 V _ _ _ _ X n yE (Aa dt A yE) (Aa c4 A yE) G (A0.Ab.below i0 (H.mono J))))
 exact Z3V
end
section
open Tryz Go.RowKit Go.Shelf
theorem Ahl (s:Ap) (i:Nat) (x:Et) (G:s.An[i]? =some x) (J:x.name=Q1) (hlen:s.An.length<=1000) (F:zP) (H:Value) (w:zN) (n:Nat) (A:n<=w) (D:Br w n s F):
  Calls prog 121 #[.agg F.toArray,H,.agg #[i,zG,zG,zG,zG]] w fun e w'=>e=.returned (.int .i64 301)/\Below w w w':=by
 have i0:=D
 obtain⟨M,O,rfl,⟨ei,ej,rfl,-⟩,hd,e9,rfl,-⟩:=D
 refine Z3T ?_
 intro el
 have hr:=Zaa (Aaa s i x G J hlen [s.Aj,.slice ei s.An ej,.slice hd s.Ac e9] _ n (Zag A el.size) (A0.Ab.below i0 (el.mono A)))
 exact Z2I
theorem Acd (s:Ap) (i:Nat) (x:Bc) (J:s.Ac[i]? =some x) (W:Hm x.name) (T:x.Ai.length<=12) (D:Nat) (U:D<i) (A:Bc) (M:s.Ac[D]? =some A) (O:A.name.toList=x.name.toList) (hlen:s.Ac.length<=1000) (H:zP) (V:Value) (w:zN) (n:Nat) (F:n<=w) (G:Br w n s H):
  Calls prog 121 #[.agg H.toArray,V,.agg #[zG,i,zG,zG,zG]] w fun e w'=>e=.returned (.int .i64 303)/\Below w w w':=by
 have i0:=G
 obtain⟨Y,a0,rfl,⟨ei,ej,rfl,-⟩,hd,e9,rfl,-⟩:=G
 refine Z3S ?_
 intro el
 have hr:=Zaa (Ah0 s i x J W T D U A M O hlen [s.Aj,.slice ei s.An ej,.slice hd s.Ac e9] _ n (Zag F el.size) (A0.Ab.below i0 (el.mono F)))
 exact Z2I
theorem Aeu (s:Ap) (V:Ef s) (i k:Nat) (x:Bc) (r:A7) (D:s.Ac[i]? =some x) (G:x.Ai[k]? =some r) (af:Io r) (aj:r.Aw.length<=8) (ae:r.kind≠1) (an:¬r.A3.toList=[]) (ad:(Er s r.A3).isSome=false) (Y:zP) (a2:Value) (w:zN) (n:Nat) (H:n<=w) (U:Br w n s Y) (aa:Al (Gk (Al Di 1)) 1 w (fun b=>b<n) (El s) a2):
  Calls prog 121 #[.agg Y.toArray,a2,.agg #[zG,i,k,zG,zG]] w fun e w'=>e=.returned (.int .i64 306)/\Below w w w':=by
 have i0:=U
 obtain⟨aF,aI,rfl,⟨ei,ej,rfl,-⟩,a3⟩:=U
 obtain⟨aD,e9,rfl,-,a0⟩:=a3.at
 obtain⟨a9,a4⟩:=Cw D
 obtain⟨b,o,rfl,aB,T,h1,h2⟩:=a0 i a9
 rw[a4]at h2
 obtain⟨aJ,rfl,ap⟩:=h2
 obtain⟨aA,rc,rfl,-,a6⟩:=ap.at
 obtain⟨a8,a5⟩:=Cw G
 obtain⟨b2,ak,rfl,av,T,h3,h4⟩:=a6 k a8
 rw[a5]at h4
 have bl:=h4
 obtain⟨z0,b9,z2,z3,z4,z5,cc,bg,bk,z9,v,rfl,-,a7⟩:=Bj.open h4
 obtain⟨gz,ac,rfl,-,au⟩:=a7.at
 have am:r.Bu.size<=10000:=V.Bu x (Zax D) r (Zax G)
 obtain⟨aE,aC,rfl,-,ag⟩:=aa.at
 have z1:(El s).length=s.Ac.length:=by simp[El]
 obtain⟨k9,to,rfl,az,T,t1,ax,rfl,t2⟩:=ag i yE
 have F:=Qm s i x D
 rw[Zam yE]at F
 injection F with F
 rw[F]at t2
 obtain⟨ay,bzj,rfl,-,ai⟩:=t2.at
 have ar:(I4 s i x.Ai).length=x.Ai.length:=by simp[I4]
 obtain⟨bnc,bzh,rfl,aw,T,t3,t4⟩:=ai k yE
 have ah:(I4 s i x.Ai)[k]'yE=((Fv s i k:Nat):Int):=by simp[I4,Fv,J4,D]
 rw[ah]at t4
 obtain rfl:=t4
 rw[ar]at t1
 refine Z4q ?_
 intro byp bf2 rs nz iv hk W bm el na c4 dt gn
 clear a0 a6 D G a4 a5 a3 bm
 go_enter func121,ntmps121
 go_wp2_with fail
 rw[gn.out]
 have k4:Below w w (W.drewN 1)/\(W.drewN 1).rangeAt w 0 [s.Aj,.slice ei s.An ej,.slice (some ⟨b,o,none⟩) s.Ac e9]/\(W.drewN 1).rangeAt (w+1) 0 [zG,i,k,zG,zG]:=⟨below_drewN el el.size 1,Ag c4 yN,Ag dt yN⟩
 have gh:(W.drewN 1).heap.size=w.heap.size+2:=uI
 refine C1 [(0,.inl none),(1,.inl (some 0)),(2,.inl none),(3,.inl (some 0)),(4,.inl none),(5,.inl none),(6,.inl (some 0)),(7,.inl none),(8,.inl (some 0)),(9,.inl none),(10,.inl (some 0)),(11,.inr [0]),(12,.inr [0])]
  (fun _ X=>Below w w X/\X.rangeAt w 0 [s.Aj,.slice ei s.An ej,.slice (some ⟨b,o,none⟩) s.Ac e9]/\X.rangeAt (w+1) 0 [zG,i,k,zG,zG]) yG yG (fun _=>k4) ?_
 refine Z3s ?_
 clear c4 dt na el
 generalize W.drewN 1=bd at k4 gh|-
 refine Z2m ?_
 refine Av (.slice (some ⟨b,o,none⟩) s.Ac e9) yI (fun w' ab=>?_) (fun K J=>?_)
 ·have cq:=ab.2.1 2 _ rfl
  exact Z16
 go_simp
 refine J _ ?_
 clear J K
 refine Z2m ?_
 refine Av (.int .i64 i) yI (fun w' ab=>?_) (fun K J=>?_)
 ·have bh:=ab.2.2 1 _ rfl
  exact Z18
 go_simp
 refine J _ ?_
 clear J K
 refine Z01 ?_
 refine Av (.slice (some ⟨b2,ak,none⟩) x.Ai rc) yI (fun w' ab=>?_) (fun K J=>?_)
 ·have bh:=Aa h1 ab.1 iv 1 _ rfl
  exact Z18
 go_simp
 refine J _ ?_
 clear J K
 refine Z2m ?_
 refine Av (.int .i64 k) yI (fun w' ab=>?_) (fun K J=>?_)
 ·have cq:=ab.2.2 2 _ rfl
  exact Z16
 go_simp
 refine J _ ?_
 clear J K
 refine Z2m ?_
 refine Av (.agg #[r.kind,r.Bh,r.Bp,z0,b9,z2,z3,z4,z5,cc,.slice bg bk z9,r.text,r.Az,.slice gz r.Aw ac,r.A3,r.Bl]) yI (fun w' ab=>?_) (fun K J=>?_)
 ·have aq:=Aa h3 ab.1 hk 0 _ rfl
  exact Z0d
 go_simp
 refine J _ ?_
 clear J K
 refine Ci (fun K J=>?_) (Bg k4)
 go_wp2_with fail
 refine Z4Y ?_
 intro fu bj
 generalize bd.alloc (.cells zU 48)=A at fu bj|-
 have fo:Below w w A/\A.rangeAt w 0 [s.Aj,.slice ei s.An ej,.slice (some ⟨b,o,none⟩) s.Ac e9]/\A.rangeAt (w+1) 0 [zG,i,k,zG,zG]:=⟨k4.1.trans (bj.mono k4.1.size),Aa k4.2.1 bj yE,Aa k4.2.2 bj yE⟩
 have aG:w.heap.size+2<A:=(Zbx.1 fu).1
 have a1:A.there (w+2) 0 16:=by
  intro j M;refine⟨?_,vZ⟩;simp only[World.cell?,fu]
  match j,M with
  | 0,_ | 1,_ | 2,_ | 3,_ | 4,_ | 5,_ | 6,_ | 7,_ | 8,_ | 9,_ | 10,_ | 11,_ | 12,_ | 13,_ | 14,_ | 15,_=>rfl
  | j+16,M=>exact absurd M yE
 have O:=Zaa a1
 clear a1 fu
 refine J _ _ (Bg fo) ?_
 clear J K
 refine Ci (fun K J=>?_) (Bg fo)
 go_wp2_with (refine Zil rfl 48 _ _ rfl _ _ _ rfl rfl O.out yG yL ?_)
 have bu:=Ao A (w+2) [r.kind,r.Bh,r.Bp,z0,b9,z2,z3,z4,z5,cc,.slice bg bk z9,r.text,r.Az,.slice gz r.Aw ac,r.A3,r.Bl] 0
 have ps:=Zar A (w+2) 0 [r.kind,r.Bh,r.Bp,z0,b9,z2,z3,z4,z5,cc,.slice bg bk z9,r.text,r.Az,.slice gz r.Aw ac,r.A3,r.Bl] O.out
 simp only[wpList,Dz]
 generalize A.setCells (w+2) 0 [.int .u8 r.kind.toNat,.bool r.Bh,.bool r.Bp,.int .u8 z0.toNat,.int .u64 b9.toNat,.int .u64 z2.toNat,.int .u64 z3.toNat,.int .u64 z4.toNat,.int .i64 z5,.int .i64 cc,.slice bg bk z9,.string r.text,.int .i64 r.Az,.slice gz r.Aw ac,.string r.A3,.int .i64 r.Bl]=bs at bu ps|-
 have gw:Below w w bs/\bs.rangeAt w 0 [s.Aj,.slice ei s.An ej,.slice (some ⟨b,o,none⟩) s.Ac e9]/\bs.rangeAt (w+1) 0 [zG,i,k,zG,zG]:=⟨fo.1.grown bu fo.1.size (fun r e=>yM),Ag fo.2.1 (bu.block _ yE yF),Ag fo.2.2 (bu.block _ yE yF)⟩
 have aH:=bu.size
 refine J _ _ (Bg gw) ?_
 clear J K O
 refine C7 ?_
 have u3:=gw.2.2 3 _ rfl
 have u4:=gw.2.2 4 _ rfl
 simp only[Zac]at u3 u4
 go_wp2_with fail
 refine Z4G ?_
 intro i6
 refine C1 [(0,.inl (some 0)),(1,.inl (some 0)),(2,.inl none),(3,.inl none),(4,.inl (some 0)),(5,.inl none),(6,.inl (some 0)),(7,.inl none),(8,.inl (some 0)),(9,.inl none),(10,.inl (some 0)),(11,.inr [0]),(12,.inl none)]
  (fun _ X=>Below w w X/\X.rangeAt w 0 [s.Aj,.slice ei s.An ej,.slice (some ⟨b,o,none⟩) s.Ac e9]/\X.rangeAt (w+1) 0 [zG,i,k,zG,zG]/\X.rangeAt (w+2) 0 [r.kind,r.Bh,r.Bp,z0,b9,z2,z3,z4,z5,cc,.slice bg bk z9,r.text,r.Az,.slice gz r.Aw ac,r.A3,r.Bl]) yG yG (fun _=>i6) ?_
 refine Z3s ?_
 have ao:(bs.drewN 1).heap.size=bs.heap.size:=yN
 generalize bs.drewN 1=al at i6 ao|-
 have c3:=Zaa (Aks s V r (Fv s i k) af aj ae an ad am _ _ al n (Zag H i6.1.size) (A0.Ab.below i0 (i6.1.mono H)) (Bj.Ab.below bl (i6.1.mono H)))
 exact Z40
end
section
open Tryz Go.RowKit Go.Shelf
structure Ahs (s:Ap):Prop where
 right:Acn s
 short:Kj s
 size:s.size<=9000
 An:1<=s.An.length/\s.An.length<=12
 Ac:1<=s.Ac.length/\s.Ac.length<=20
 Ai:∀x∈s.Ac,x.Ai.length<=11
 names:∀x∈s.Ac,Hm x.name
 Aj:2<=s.Aj/\s.Aj<=256
structure Ext (s b:Ap):Prop where
 Aj:b.Aj=s.Aj
 An:b.An=s.An
 len:s.Ac.length<=b.Ac
 Fm:b.Ac.length<=24
 st:∀(i:Nat) (x:Bc),s.Ac[i]? =some x->∃eO:Bc,b.Ac[i]? =some eO/\eO.name=x.name/\eO.Ai.length<=12/\∀(k:Nat) (r:A7),x.Ai[k]? =some r->eO.Ai[k]? =some r
 tot:∀(i:Nat) (x:Bc) (k:Nat) (r:A7),s.Ac[i]? =some x->x.Ai[k]? =some r->Fv b i k=Fv s i k
 A3:∀g,(Er s g).isSome=true->(Er b g).isSome=true
theorem Ext.place {s b:Ap} (h:Ext s b) {p:B9} (hp:H8 s p):H8 b p:=by
 cases hp with
 | whole k=>exact .whole ⟨by rw[h.Aj];exact k.b1,by rw[h.Aj];exact k.b2,Zag k.s1 h.len,h.Fm,by rw[h.An];exact k.v⟩
 | var i v M k=>exact .var i v (by rw[h.An];exact M) ⟨k.name,k.right,by rw[h.An];exact k.first⟩
 | state i x A k=>
  obtain⟨D,h1,h2,h3,_⟩:=h.st i x A;refine .state i D h1 ⟨by rw[h2];exact k.name,h3,fun j y O hy=>?_⟩;have V:=(Zeg.1 A).1;obtain⟨W,U,T,_⟩:=h.st j _ (Zam (show j<s.Ac from yE));rw[U]at hy;cases hy;rw[T,h2];exact k.first j _ O (Zam yE)
 | Me i k x r A F q=>
  obtain⟨D,h1,h2,h3,h4⟩:=h.st i x A;refine .Me i k D r h1 (h4 k r F) ⟨q.fields,q.Fm,q.Ea,fun e=>by rw[h.tot i x k r A F];exact q.all e,?_⟩;have G:=q.A3;split at G
  ·rename_i e;rw[if_pos e];exact G
  rename_i e;rw[if_neg e];exact⟨h.A3 _ G.1,G.2⟩
 | act i k m x r a A F H q=>
  obtain⟨D,h1,h2,h3,h4⟩:=h.st i x A;refine .act i k m D r a h1 (h4 k r F) H ⟨q.kind,q.send,q.none,fun e=>⟨(q.bare e).1,(q.bare e).2.1,fun y hy=>by rw[h.An];exact(q.bare e).2.2.1 y hy,(q.bare e).2.2.2⟩,q.Fm,by rw[h.An];exact q.set,by rw[h.An];exact q.Apw⟩
 | part i k m n x r a p A F H hp q=>
  obtain⟨D,h1,h2,h3,h4⟩:=h.st i x A;refine .part i k m n D r a p h1 (h4 k r F) H hp ⟨?_,q.apart⟩;have J:=q.kinds;unfold L1 at J|-;rw[h.An];exact J
theorem Of (b:Ap) (U:Ef b) (a4:Kj b) (pre post:List B9) (p:B9) (G:Ca b=pre++p::post) (a3:∀q∈pre,H8 b q) (err:Int) (a1:err≠0) (A:zP) (w:zN) (n:Nat) (H:n<=w) (M:Br w n b A)
  (a0:∀(X:zN) (m:Nat) (D:Value),m<=X->Br X m b A->Al (Gk (Al Di 1)) 1 X (fun q=>q<m) (El b) D->Calls prog 121 #[.agg A.toArray,D,.agg p.cells.toArray] X fun e a2=>e=.returned (.int .i64 err)/\Below X X a2):
  Calls prog 30 #[.agg A.toArray] w fun e w'=>e=.returned (.bool false)/\Below w w w':=by
 have J:pre.length< (Ca b).length:=by rw[G];simp
 have h:=Yc b U A w n H M pre yE err a1 (fun j h1 h2 X m D Y hm V T=>by
  have W:=A0.Ab.mono (A0.Ab.below M (Y.mono H)) hm;by_cases O:j=pre
  ·subst O
   rw[if_pos rfl];have e:(Ca b)[pre.length]'h1=p:=by
    have:(Ca b)[pre.length]? =some p:=by rw[G];simp
    rw[Zam h1]at this;injection this
   rw[e];exact a0 X m D V W T
  rw[if_neg O];have F:j<pre:=yE;have e:(Ca b)[j]'h1=pre[j]:=by
   have:(Ca b)[j]? =some pre[j]:=by rw[G,Zbp F];exact Zam F
   rw[Zam h1]at this;injection this
  exact Am7 b U a4 _ (by rw[e];exact a3 _ (Zat F)) A D X m V W T)
 rw[show decide (pre.length=(Ca b).length)=false from yJ]at h
 exact h
theorem Tu (b:Ap):∃post,Ca b=[]++top::post:=⟨_,rfl⟩
theorem Aat (b:Ap) (U:Ef b) (J:Kj b) (h:b.Aj<2) (A:zP) (w:zN) (n:Nat) (D:n<=w) (F:Br w n b A):
  Calls prog 30 #[.agg A.toArray] w fun e w'=>e=.returned (.bool false)/\Below w w w':=by
 obtain⟨post,e⟩:=Tu b
 exact Of b U J [] post top e yF 300 yH A w n D F (fun X m H hm G _=>Acb b h A H X m hm G)
theorem W7 (b:Ap) (U:Ef b) (J:Kj b) (h:b.Ac=[]) (h1:2<=b.Aj) (h2:b.Aj<=256) (A:zP) (w:zN) (n:Nat) (D:n<=w) (F:Br w n b A):
  Calls prog 30 #[.agg A.toArray] w fun e w'=>e=.returned (.bool false)/\Below w w w':=by
 obtain⟨post,e⟩:=Tu b
 exact Of b U J [] post top e yF 302 yH A w n D F (fun X m H hm G _=>Zv b (by rw[h];rfl) h1 h2 A H X m hm G)
theorem Ado (b:Ap) (U:Ef b) (F:Kj b) (hw:Xs b) (x:Et) (D:b.An[0]? =some x) (W:x.name=Q1) (A:zP) (w:zN) (n:Nat) (G:n<=w) (M:Br w n b A):
  Calls prog 30 #[.agg A.toArray] w fun e w'=>e=.returned (.bool false)/\Below w w w':=by
 have J:=(Zeg.1 D).1
 obtain⟨post,e⟩:∃post,Ca b=[top]++⟨(0:Nat),-1,-1,-1,-1⟩::post:=by
  have H:=Ri 0 b.An J;have T:Kt b.An=Ih 0 b.An:=rfl;refine⟨Ih 1 b.An.length++Cr 0 b.Ac,?_⟩;simp only[Ca,T,H,Zas,Zau]
 exact Of b U F [top] post _ e (by simp only[Zbf,forall_eq];exact .whole hw) 301 yH A w n G M (fun X m V hm O _=>Ahl b 0 x D W (by have:=F.An;omega) A V X m hm O)
theorem La {s:Ap} {g:zS}:(Er s g).isSome=true↔∃x∈s.Ac,x.name.toList=g.toList:=by
 unfold Er;rw[List.findIdx?_isSome,Zdh];simp
theorem Adn (s:Ap) (A:Ahs s) (b:Ap) (x:Bc) (W:b.Aj=s.Aj) (G:b.An=s.An) (D:b.Ac=s.Ac++[x]) (M:s.Ac[0]? =some x) (H:zP) (w:zN) (n:Nat) (Y:n<=w) (a0:Br w n b H):
  Calls prog 30 #[.agg H.toArray] w fun e w'=>e=.returned (.bool false)/\Below w w w':=by
 have F:x∈s.Ac:=Zax M
 have U:Ef b:=by
  have h1:=A.size;have h2:=Ha Bc.size s.Ac x F;refine⟨?_,fun y hy=>?_,fun y hy=>?_⟩
  ·unfold Ap.size at h1|-
   rw[G,D];simp only[Zbj,Zet,Zfl,Zbi,Zeu,Zfm,Zfn,Zao,Zav];omega
  ·rw[D]at hy
   rcases Zew.1 hy with hy | hy
   ·exact A.right.small.Bu y hy
   simp only[Zbf]at hy;subst hy;exact A.right.small.Bu y F
  rw[D]at hy;rcases Zew.1 hy with hy | hy
  ·exact A.right.small.act y hy
  simp only[Zbf]at hy;subst hy;exact A.right.small.act y F
 have V:Kj b:=by
  refine⟨by rw[G];exact A.short.An,by rw[D];have:=A.Ac.2;simp;omega,fun y hy=>?_⟩;rw[D]at hy;rcases Zew.1 hy with hy | hy
  ·exact A.short.Ay y hy
  simp only[Zbf]at hy;subst hy;exact A.short.Ay y F
 have a2:Ext s b:=by
  refine⟨W,G,by rw[D];simp,by rw[D];have:=A.Ac.2;simp;omega,fun i y hy=>?_,fun i y k r hy O=>?_,fun g T=>?_⟩
  ·have J:=(Zeg.1 hy).1
   exact⟨y,by rw[D,Zbp J];exact hy,rfl,by have:=A.Ai y (Zax hy);omega,fun k r O=>O⟩
  ·have J:=(Zeg.1 hy).1
   unfold Fv;rw[D,Zbp J,List.take_append_of_le_length yE]
  rw[La]at T|-;obtain⟨y,hy,e⟩:=T;exact⟨y,by rw[D];simp[hy],e⟩
 have a5:Ca b=Ca s++(⟨-1,(s.Ac.length:Nat),-1,-1,-1⟩::C9 s.Ac 0 x.Ai):=by
  simp only[Ca,G,D,L8,Cr,Hb,Zdk,Zac,Zas,Zdj]
 exact Of b U V (Ca s) _ _ a5 (fun q a1=>a2.place (A.right.at_ q a1)) 303 yH H w n Y a0 (fun X m a4 hm a3 _=>
  Acd b s.Ac x (by rw[D];simp) (A.names x F) (by have:=A.Ai x F;omega) 0 (by have:=A.Ac.1;omega) x (by rw[D,Zbp (by have:=A.Ac.1;omega)];exact M) rfl V.Ac H a4 X m hm a3)
theorem Zh_ (s:Ap) (F:Ahs s) (b:Ap) (x:Bc) (rest:List Bc) (D:A7) (a1:b.Aj=s.Aj) (O:b.An=s.An) (G:s.Ac=x::rest) (H:b.Ac=⟨x.name,x.Ai++[D]⟩::rest) (a7:D.kind=3) (ah:Io D) (ad:D.Bu.size=1) (J:D.Aw=[]) (ae:¬D.A3.toList=[]) (a0:∀y∈s.Ac,y.name.toList≠D.A3.toList)
  (V:zP) (w:zN) (n:Nat) (a2:n<=w) (a3:Br w n b V):
  Calls prog 30 #[.agg V.toArray] w fun e w'=>e=.returned (.bool false)/\Below w w w':=by
 have M:x∈s.Ac:=by rw[G];simp
 have aa:Cu (x.Ai++[D])=Cu x.Ai:=by
  unfold Cu;simp[a7]
 have a8:D.size=2:=by unfold A7.size;rw[ad,J];simp
 have U:Ef b:=by
  have h1:=F.size;refine⟨?_,fun y hy r A=>?_,fun y hy r A=>?_⟩
  ·unfold Ap.size at h1|-
   rw[O,H];rw[G]at h1;simp only[Zbi,Zfm,Zao,Bc.size,Zet,Zfl,Zeu,Zfn,a8]at h1|-;omega
  ·rw[H]at hy
   rcases List.mem_cons.1 hy with rfl | hy
   ·rcases Zew.1 A with A | A
    ·exact F.right.small.Bu x M r A
    simp only[Zbf]at A;subst A;omega
   exact F.right.small.Bu y (by rw[G];simp[hy]) r A
  rw[H]at hy;rcases List.mem_cons.1 hy with rfl | hy
  ·rcases Zew.1 A with A | A
   ·exact F.right.small.act x M r A
   simp only[Zbf]at A;subst A;rw[J];simp
  exact F.right.small.act y (by rw[G];simp[hy]) r A
 have hlen:b.Ac.length=s.Ac:=by rw[H,G];rfl
 have ag:Kj b:=by
  refine⟨by rw[O];exact F.short.An,by rw[hlen];exact F.short.Ac,fun y hy r A=>?_⟩;rw[H]at hy;rcases List.mem_cons.1 hy with rfl | hy
  ·rcases Zew.1 A with A | A
   ·exact F.short.Ay x M r A
   simp only[Zbf]at A;subst A;rw[J];simp
  exact F.short.Ay y (by rw[G];simp[hy]) r A
 have ai:=F.Ai x M
 have a6:Ext s b:=by
  refine⟨a1,O,yE,by have:=F.Ac.2;omega,fun i y hy=>?_,fun i y k r hy A=>?_,fun g W=>?_⟩
  ·rw[G]at hy
   rw[H]
   match i,hy with
   | 0,hy=>
    simp only[Zad,Zbb]at hy;subst hy;exact⟨_,rfl,rfl,yJ,fun k r A=>by
     have a7:=(Zeg.1 A).1;simp only[Zbp a7];exact A⟩
   | i+1,hy=>
    simp only[Zae]at hy;exact⟨y,by simpa using hy,rfl,by have:=F.Ai y (by rw[G];simp[Zax hy]);omega,fun k r A=>A⟩
  ·unfold Fv
   rw[G]at hy|-;rw[H]
   match i,hy with
   | 0,hy=>
    simp only[Zad,Zbb]at hy;subst hy;have a7:=(Zeg.1 A).1;simp only[Zfr,Zeu,Zfn,Zad,Option.elim_some];rw[List.take_append_of_le_length yE]
   | i+1,hy=>
    simp only[Zfq,Zbi,Zfm,Zae,aa]
  rw[La]at W|-;obtain⟨y,hy,e⟩:=W;rw[G]at hy;rw[H];rcases List.mem_cons.1 hy with rfl | hy
  ·exact⟨_,Zey,e⟩
  exact⟨y,Zex _ hy,e⟩
 have af:Ca b=(top::(Kt s.An++⟨-1,(0:Nat),-1,-1,-1⟩::C9 0 0 x.Ai))++(⟨-1,(0:Nat),(x.Ai.length:Nat),-1,-1⟩::Cr 1 rest):=by
  simp only[Ca,O,H,Cr,Hb,Mw,C9,Jp,J,E6,Zdk,Zac,Zas,Zdj,Zau]
 have ab:∀q∈(top::(Kt s.An++⟨-1,(0:Nat),-1,-1,-1⟩::C9 0 0 x.Ai)),q∈Ca s:=by
  intro q T;simp only[Ca,G,Cr,Hb,Zbc,Zew]at T|-;rcases T with h | h | h | h
  ·exact .inl h
  ·exact .inr (.inl h)
  ·exact .inr (.inr (.inl (.inl h)))
  exact .inr (.inr (.inl (.inr h)))
 have a5:(Er b D.A3).isSome=false:=by
  cases Y:(Er b D.A3).isSome with
  | false=>rfl
  | true=>
   rw[La]at Y;obtain⟨y,hy,e⟩:=Y;rw[H]at hy;rcases List.mem_cons.1 hy with rfl | hy
   ·exact absurd e (a0 x M)
   exact absurd e (a0 y (by rw[G];simp[hy]))
 exact Of b U ag _ _ _ af (fun q T=>a6.place (F.right.at_ q (ab q T))) 306 yH V w n a2 a3 (fun X m ac hm a9 a4=>
  Aeu b U 0 x.Ai ⟨x.name,x.Ai++[D]⟩ D (by rw[H];rfl) yF ah (by rw[J];simp) yY ae a5 V ac X m hm a9 a4)
end
end Go.Proofs.YtafmoofknjncpaaGreatDoor
