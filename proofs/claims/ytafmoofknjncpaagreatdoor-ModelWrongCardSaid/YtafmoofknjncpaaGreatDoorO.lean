/- A part of the proof that ModelWrong holds: its theorems stand as they are typed. -/
import Derived.Test.YtafmoofknjncpaaGreatDoorH
set_option linter.all false
set_option maxRecDepth 100000
set_option maxHeartbeats 8000000
namespace Go.Proofs.YtafmoofknjncpaaGreatDoor
section
open Tryz Go.RowKit Go.Shelf
theorem Amh (x:A7) (aM:x.Bu.size<=10000) (has:∀a∈x.Aw,a.Bw.size<=10000/\(∀p∈a.Ay,p.Bw.size<=10000)/\a.Ay.length<=20000) (b1:x.Aw.length<=20000) (cs:zP) (w:zN) (n:Nat) (ag:n<=w) (hA:Fo w n x cs):
  Calls prog 29 #[.agg cs.toArray] w fun e w'=>∃aB,e=.returned (.agg aB.toArray)/\Bj w' (fun b=>w<=b/\b<w') x aB/\Below w w w':=by
 obtain⟨z0,a2,z2,z3,z4,z5,a7,a4,a5,z9,v,rfl,aA,aD⟩:=Bj.open hA
 have aC:=aD
 obtain⟨a0,Y,rfl,-⟩:=aD
 obtain⟨dq,gd⟩:=zL ((w.alloc (.cells #[x.kind,x.Bh,x.Bp,z0,a2,z2,z3,z4,z5,a7,.slice a4 a5 z9,x.text,x.Az,.slice a0 x.Aw Y,x.A3,x.Bl] 48)).alloc (.cells zU 48))
 refine Z30 ?_
 intro c0 gh
 have D:dq.rangeAt w 0 [x.kind,x.Bh,x.Bp,z0,a2,z2,z3,z4,z5,a7,.slice a4 a5 z9,x.text,x.Az,.slice a0 x.Aw Y,x.A3,x.Bl]:=by rw[<-gd];exact Aa (Ae w _ 48) (Af _) yF
 have aG:dq.heap[w.heap.size]? =some (.cells #[x.kind,x.Bh,x.Bp,z0,a2,z2,z3,z4,z5,a7,.slice a4 a5 z9,x.text,x.Az,.slice a0 x.Aw Y,x.A3,x.Bl] 48 (0,0)):=tT
 have aF:dq.heap[w.heap.size+1]? =some (.cells zU 48 (0,0)):=by rw[<-gd];have:=Zhe (w.alloc (.cells #[x.kind,x.Bh,x.Bp,z0,a2,z2,z3,z4,z5,a7,.slice a4 a5 z9,x.text,x.Az,.slice a0 x.Aw Y,x.A3,x.Bl] 48)) (.cells zU 48);rwa[Zaq]at this
 have c3:=Zaa (Ah6 x.Bu _ dq n aM yE (aA.below (c0.mono ag)))
 have d3:=D 3 _ rfl
 have d4:=D 4 _ rfl
 have d5:=D 5 _ rfl
 have d6:=D 6 _ rfl
 have d7:=D 7 _ rfl
 have d8:=D 8 _ rfl
 have d9:=D 9 _ rfl
 have d10:=D 10 _ rfl
 simp only[Zac]at d3 d4 d5 d6 d7 d8 d9 d10
 have hq:=Zaa D
 have hv:=Zaa aG
 have ho:=Zaa aF
 clear D aG aF hA aA
 go_enter func29,ntmps29
 go_wp2_with fail
 refine Z0P ?_
 rintro e T ⟨es,rfl,ab,af⟩
 obtain⟨u0,u1,u2,u3,u4,u5,u6,u7,u8,u9,rfl⟩:=Bo.eight (Ey.in ab)
 refine Z3O ?_
 intro ox me ha eF
 have aE:T.there w 3 8:=by
  intro j M;refine⟨?_,by simp[World.frozen?,ox]⟩;simp only[World.cell?,ox]
  match j,M with
  | 0,_ | 1,_ | 2,_ | 3,_ | 4,_ | 5,_ | 6,_ | 7,_=>rfl
  | j+8,M=>exact absurd M yE
 have ck:=Zaa aE
 have ac:T.there (w+1) 0 16:=by
  intro j M;refine⟨?_,vY⟩;simp only[World.cell?,me]
  match j,M with
  | 0,_ | 1,_ | 2,_ | 3,_ | 4,_ | 5,_ | 6,_ | 7,_ | 8,_ | 9,_ | 10,_ | 11,_ | 12,_ | 13,_ | 14,_ | 15,_=>rfl
  | j+16,M=>exact absurd M yE
 have aV:=Zaa ac
 have bbj:T.rangeAt w 0 [x.kind,x.Bh,x.Bp]:=fun j v A=>ha j v (by
  match j,A with
  | 0,A | 1,A | 2,A=>exact A)
 have am:T.rangeAt w 11 [x.text,x.Az,.slice a0 x.Aw Y,x.A3,x.Bl]:=fun j v A=>by
  have:=ha (11+j) v (by
   match j,A with
   | 0,A | 1,A | 2,A | 3,A | 4,A=>exact A)
  rwa[Zac]at this
 obtain⟨V,cr⟩:=zL (T.setCells w 3 [u0,u1,u2,u3,u4,u5,u6,.slice u7 u8 u9])
 have kj:T.grownBy V (some w.heap.size):=sS
 have aI:V.rangeAt w 3 [u0,u1,u2,u3,u4,u5,u6,.slice u7 u8 u9]:=sD
 have ae:V.rangeAt w 0 [x.kind,x.Bh,x.Bp]:=tS
 have aa:V.rangeAt w 11 [x.text,x.Az,.slice a0 x.Aw Y,x.A3,x.Bl]:=by rw[<-cr];exact Zhl am _ _ _ (.inr (.inr yF))
 obtain⟨aY,av⟩:∃cur,V.heap[w.heap.size]? =some (.cells cur 48 (0,0)):=by rw[<-cr];exact Gt T _ _ _ _ ox
 have b2:=kj.size
 have ah:Below w w V:=(c0.trans (af.mono yE)).grown kj yE (fun r e=>wI)
 have ar:=Gh ac (kj.block (w+1) yE yF)
 have aQ:=aa 2 _ rfl
 simp only[Nat.reduceAdd]at aQ
 clear d3 d4 d5 d6 d7 d8 d9 d10 aE ac ox me
 have aU:=Zaa (Amg C2.Ab (fun _ _ x cs h=>Aai x cs h) 56 (fun _ _=>rfl) x.Aw _ V n yE yE ((Al.Ab C2.Ab).below aC (ah.mono ag)) (fun y hy cs X az hI=>An7 y (has y hy).1 (has y hy).2.1 (has y hy).2.2 cs X n xV hI))
 have aN:=Zaa ae
 have aR:=Zaa aa
 have aP:=Zaa aI
 have aK:=Zaa ar
 have aO:=Zaa av
 clear ae aa aI ar bbj am ha aC av
 go_wp2_with (refine Zil rfl 43 _ _ rfl _ _ _ rfl rfl ck.out yG yL ?_;rw[show(#[u0,u1,u2,u3,u4,u5,u6,.slice u7 u8 u9]:Array Value).toList=[.int .u8 u0.toNat,.int .u64 u1.toNat,.int .u64 u2.toNat,.int .u64 u3.toNat,.int .u64 u4.toNat,.int .i64 u5,.int .i64 u6,.slice u7 u8 u9]from rfl,cr])
 refine aU.out.mono ?_
 rintro e W ⟨b0,rfl,ak,c9⟩
 have ao:=ak
 obtain⟨H,J,rfl,-⟩:=ak
 have aH:=(c9.block w yE).trans aO.out
 have aj:=Aa aP.out c9 yE
 have al:=Aa aN.out c9 yE
 have a6:=Aa aR.out c9 yE
 have au:=Gh aK.out (c9.block (w+1) yE)
 have aZ:=c9.size
 have f2:W.frozen? ⟨w,13,none⟩=false:=by simp[World.frozen?,aH]
 have aw:=a6 2 _ rfl
 simp only[Nat.reduceAdd]at aw
 obtain⟨G,aT⟩:=zL (W.setCell ⟨w,13,none⟩ (.slice H x.Aw J))
 have O:W.setCells w 13 [.slice H x.Aw J]=G:=aT
 have rq:W.grownBy G (some w.heap.size):=by rw[<-O];exact Ao _ _ _ _
 have aq:W.there w 13 1:=by
  intro j M;obtain rfl:j=0:=yE;exact⟨by simp[aw],f2⟩
 have ap:G.rangeAt w 13 [.slice H x.Aw J]:=by rw[<-O];exact Zar _ _ _ _ aq
 have F:G.rangeAt w 3 [u0,u1,u2,u3,u4,u5,u6,.slice u7 u8 u9]:=by rw[<-O];exact Zhl aj _ _ _ (.inr (.inl yF))
 have a3:G.rangeAt w 0 [x.kind,x.Bh,x.Bp]:=by rw[<-O];exact Zhl al _ _ _ (.inr (.inl yF))
 have ax:W.rangeAt w 11 [x.text,x.Az]:=fun j v A=>a6 j v (by
  match j,A with
  | 0,A | 1,A=>exact A)
 have ay:W.rangeAt w 14 [x.A3,x.Bl]:=fun j v A=>by
  have:=a6 (3+j) v (by
   match j,A with
   | 0,A | 1,A=>exact A)
  rwa[show 11+(3+j)=14+j from yE]at this
 have a8:G.rangeAt w 11 [x.text,x.Az]:=by rw[<-O];exact Zhl ax _ _ _ (.inr (.inl yF))
 have a9:G.rangeAt w 14 [x.A3,x.Bl]:=by rw[<-O];exact Zhl ay _ _ _ (.inr (.inr yF))
 have g0:=a3 0 _ rfl
 have g1:=a3 1 _ rfl
 have g2:=a3 2 _ rfl
 have g3:=F 0 _ rfl
 have g4:=F 1 _ rfl
 have g5:=F 2 _ rfl
 have g6:=F 3 _ rfl
 have g7:=F 4 _ rfl
 have g8:=F 5 _ rfl
 have g9:=F 6 _ rfl
 have g10:=F 7 _ rfl
 have g11:=a8 0 _ rfl
 have g12:=a8 1 _ rfl
 have g13:=ap 0 _ rfl
 have g14:=a9 0 _ rfl
 have g15:=a9 1 _ rfl
 simp only[Zac,Zaf,Nat.reduceAdd]at g0 g1 g2 g3 g4 g5 g6 g7 g8 g9 g10 g11 g12 g13 g14 g15
 have an:=Zaa (Gh au (rq.block (w+1) yE yF))
 have aW:=rq.size
 obtain⟨a1,ad⟩:=zL (G.setCells (w+1) 0 [x.kind,x.Bh,x.Bp,u0,u1,u2,u3,u4,u5,u6,.slice u7 u8 u9,x.text,x.Az,.slice H x.Aw J,x.A3,x.Bl])
 have oa:G.grownBy a1 (some (w.heap.size+1)):=by rw[<-ad];exact Ao _ _ _ _
 have aL:a1.rangeAt (w+1) 0 [x.kind,x.Bh,x.Bp,u0,u1,u2,u3,u4,u5,u6,.slice u7 u8 u9,x.text,x.Az,.slice H x.Aw J,x.A3,x.Bl]:=by rw[<-ad];exact Zar _ _ _ _ an.out
 have aX:=oa.size
 have aS:Below w w a1:=((ah.trans (c9.mono yE)).grown rq yE (fun r e=>wI)).grown oa yE (fun r e=>yM)
 have ai:Bj a1 (fun b=>w<=b/\b<a1) x [x.kind,x.Bh,x.Bp,u0,u1,u2,u3,u4,u5,u6,.slice u7 u8 u9,x.text,x.Az,.slice H x.Aw J,x.A3,x.Bl]:=by
  refine⟨[u0,u1,u2,u3,u4,u5,u6,.slice u7 u8 u9],.slice H x.Aw J,rfl,?_,?_⟩
  ·refine Tree.A6.mono (Tree.A6.block ab fun b U=>?_) fun b U=>⟨yE,yE⟩
   exact Z2a
  refine(Al.Ab C2.Ab).wide ((Al.Ab C2.Ab).block ao fun b U=>?_) fun b U=>⟨yE,yE⟩
  exact(oa.block b yE yJ).trans (rq.block b U.2 yJ)
 have aJ:=Zaa ai
 clear ab ap F a3 a8 a9 ax ay aj al a6 ao ai au aq aH O
 go_wp2_with (refine Zil rfl 48 _ _ rfl _ _ _ rfl rfl an.out yG yL ?_;rw[show(#[x.kind,x.Bh,x.Bp,u0,u1,u2,u3,u4,u5,u6,.slice u7 u8 u9,x.text,x.Az,.slice H x.Aw J,x.A3,x.Bl]:Array Value).toList=[.int .u8 x.kind.toNat,.bool x.Bh,.bool x.Bp,.int .u8 u0.toNat,.int .u64 u1.toNat,.int .u64 u2.toNat,.int .u64 u3.toNat,.int .u64 u4.toNat,.int .i64 u5,.int .i64 u6,.slice u7 u8 u9,.string x.text,.int .i64 x.Az,.slice H x.Aw J,.string x.A3,.int .i64 x.Bl]from rfl,ad])
 exact Zho (Aq rfl _ _ _ _ _ rfl aL yG yG) rfl ⟨_,rfl,aJ.out,aS⟩
end
section
open Tryz Go.RowKit Go.Shelf
def Acm (r:A7):Prop:=r.Bu.size<=10000/\(∀a∈r.Aw,a.Bw.size<=10000/\(∀p∈a.Ay,p.Bw.size<=10000)/\a.Ay.length<=20000)/\r.Aw.length<=20000
theorem Ajo (x:Bc) (T:∀r∈x.Ai,Acm r) (au:x.Ai.length<=20000) (cs:zP) (w:zN) (n:Nat) (ah:n<=w) (az:Aoi w n x cs):
  Calls prog 27 #[.agg cs.toArray] w fun e w'=>∃a9,e=.returned (.agg a9.toArray)/\Iv w' (fun b=>w<=b/\b<w') x a9/\Below w w w':=by
 obtain⟨v,rfl,ab⟩:=az
 have aa:=ab
 obtain⟨A,rc,rfl,-⟩:=ab
 obtain⟨W,bm⟩:=zL ((w.alloc (.cells #[x.name,.slice A x.Ai rc] 37)).alloc (.cells #[zC,zH] 37))
 refine Z47 ?_
 intro el na
 have ac:W.rangeAt w 0 [x.name,.slice A x.Ai rc]:=by rw[<-bm];exact Aa (Ae w _ 37) (Af _) yF
 have ae:W.heap[w.heap.size+1]? =some (.cells #[zC,zH] 37 (0,0)):=by rw[<-bm];have:=Zhe (w.alloc (.cells #[x.name,.slice A x.Ai rc] 37)) (.cells #[zC,zH] 37);rwa[Zaq]at this
 go_enter func27,ntmps27
 go_wp2_with fail
 try rw[bm]
 have H:Below w w (W.drewN 1)/\(W.drewN 1).rangeAt w 0 [x.name,.slice A x.Ai rc]:=⟨below_drewN el el.size 1,Ag ac yN⟩
 have ap:(W.drewN 1).heap.size=w.heap.size+2:=uI
 have a2:(W.drewN 1).heap[w.heap.size+1]? =some (.cells #[zC,zH] 37 (0,0)):=by rw[Zhg];exact ae
 refine C1 [(0,.inl none),(1,.inl (some 0)),(2,.inl none),(3,.inl (some 0)),(4,.inr [0]),(5,.inl none),(6,.inr [0])]
  (fun _ X=>Below w w X/\X.rangeAt w 0 [x.name,.slice A x.Ai rc]) yG yG (fun _=>H) ?_
 refine Z3s ?_
 clear ac na el ae bm
 generalize W.drewN 1=a4 at H ap a2|-
 have aq:=Zaa (Ajm Bj.Ab (fun _ _ x cs h=>X7 x cs h) 29 (fun _ _=>rfl) x.Ai _ a4 n yE yE ((Al.Ab Bj.Ab).below aa (H.1.mono ah)) (fun y hy cs X az hI=>Amh y (T y hy).1 (T y hy).2.1 (T y hy).2.2 cs X n xV hI))
 clear aa T
 refine Z02 ?_
 refine Av (.string x.name) yI (fun w' a1=>?_) (fun K J=>?_)
 ·have ak:=a1.2 0 _ rfl
  try simp only[Zaf,Zac]at ak
  go_simp
 refine Z2n ?_
 clear J K
 refine Z02 ?_
 refine Av (.slice A x.Ai rc) yI (fun w' a1=>?_) (fun K J=>?_)
 ·have ao:=a1.2 1 _ rfl
  try simp only[Zaf,Zac]at ao
  go_simp
 refine Z2n ?_
 clear J K
 refine Ci (fun K J=>?_) (Bg H)
 go_wp2_with fail
 refine aq.out.mono ?_
 rintro e D ⟨ax,rfl,-,Y,ar⟩
 obtain⟨ai,V,a7,am⟩:=ar
 obtain⟨F,G,a5,-⟩:=V.shape
 rw[a7]at a5
 subst a5
 go_wp2_with fail
 have O:Below w w D/\D.rangeAt w 0 [x.name,.slice A x.Ai rc]:=⟨H.1.trans (Y.mono H.1.size),Aa H.2 Y yE⟩
 have a3:=(Y.block (w+1) yE).trans a2
 have av:=Y.size
 have ad:D.there (w+1) 0 2:=by
  intro j al;refine⟨?_,by simp[World.frozen?,a3]⟩;simp only[World.cell?,a3]
  match j,al with
  | 0,_ | 1,_=>rfl
 have a8:=Zaa ad
 clear ad a3 a2
 refine J _ _ (Bg O) ?_
 clear J K
 refine Z02 ?_
 refine Ci (fun K J=>?_) (Bg O)
 go_wp2_with (refine Zil rfl 37 _ _ rfl _ _ _ rfl rfl a8.out yG yL ?_)
 have M:=Ao D (w+1) [x.name,.slice F x.Ai G] 0
 have ag:=Zar D (w+1) 0 [x.name,.slice F x.Ai G] a8.out
 simp only[wpList,Dz]
 generalize D.setCells (w+1) 0 [.string x.name,.slice F x.Ai G]=a0 at M ag|-
 have aw:=M.size
 have af:Below w w a0/\a0.rangeAt w 0 [x.name,.slice A x.Ai rc]:=⟨O.1.grown M O.1.size (fun r e=>yM),Ag O.2 (M.block _ yE yF)⟩
 refine J _ _ (Bg af) ?_
 clear J K
 refine C7 ?_
 have an:Iv a0 (fun b=>w<=b/\b<a0) x [x.name,.slice F x.Ai G]:=by
  have a6:∀k,(Value.slice F x.Ai G).ownBlock=some k->a4.heap.size<=k/\k<D.heap.size:=fun k e=>V.lt k e
  refine⟨.slice F x.Ai G,ai,rfl,⟨Du (V.1.kept M ?_) (Zap _),V.2⟩,a7,fun k e=>?_,fun i h1 h2=>?_⟩
  ·cases aj:(Value.slice F x.Ai G).ownBlock with
   | none=>exact .inl rfl
   | some q=>right;intro e;cases e;have:=(a6 _ aj).1;omega
  ·have:=a6 k e;omega
  exact Bj.Ab.wide (Bj.Ab.block (am i h1 h2) fun b U=>M.block b U.1.1 yJ) fun b U=>⟨⟨yE,yE⟩,U.1.2⟩
 go_wp2_with fail
 exact Zho (Aq rfl _ _ _ _ _ rfl ag yG yG) rfl ⟨_,rfl,an,af.1⟩
end
section
open Tryz Go.RowKit Go.Shelf
theorem Z9 {w:zN} {lo:Nat} {l:List Et} {A:List (List Value)} {G:Value} (h:w.ownsRow lo 53 4 G A A.flatten) (F:A.length=l) (hI:∀i (h1:i<l.length) (h2:i<A.length),Dy w (fun _=>True) l[i] A[i]):
  Al Dy 4 w (fun b=>lo<=b/\b<w) l G:=by
 have J:∀cs∈A,cs.length=4:=fun cs U=>by
  obtain⟨i,D,rfl⟩:=Zem U;rw[show A[i]=_ from hI i yE D];rfl
 have H:Dc w lo 53 4 G A:=⟨h,J⟩
 obtain⟨a,c,rfl,W⟩:=H.shape
 refine⟨a,c,by rw[F],yE,?_⟩
 rcases H.at_ with h0 | ⟨g,Y,O,V,T,M⟩
 ·left;rw[h0]at F;exact Zeo.1 F.symm
 cases O
 exact .inr ⟨g,0,rfl,⟨V,T⟩,fun i D=>⟨A[i]'yE,M i yE,hI i D yE⟩⟩
def Aj4 (w:zN) (lo:Nat) (s:Ap) (cs:zP):Prop:=∃v u A m,cs=[.int .i64 s.Aj,v,u]/\lo<=A/\A<=m/\m<=w.heap.size/\Au (A2 Dy A) A 53 4 w s.An v/\(∀k,v.ownBlock=some k->k<m)/\Au (A2 Cf m) m 37 2 w s.Ac u/\∃ws,ws.map (·.1)=s.Ac/\Z4 m w ws/\Au G6 m 37 2 w ws u
theorem Aek (s:Ap) (b0:Ef s) (an:∀x∈s.Ac,x.Ai.length<=20000/\∀r∈x.Ai,Acm r) (cs:zP) (w:zN) (n:Nat) (ac:n<=w) (av:Br w n s cs):
  Calls prog 7 #[.agg cs.toArray] w fun e w'=>∃aj,e=.returned (.agg aj.toArray)/\A0 w' (fun b=>w<=b/\b<w') s aj/\Below w w w'/\Aj4 w' w s aj:=by
 have aw:=av
 have ba:s.An.length+s.Ac<=20000:=uN
 obtain⟨v,u,rfl,aK,aM⟩:=av
 have ax:=aM
 obtain⟨A,G,O,rfl,b6,a8,ap,hI⟩:=aK.rows Dy.len
 obtain⟨F,D,rfl,-⟩:=aM
 have aN:A=none->O=[]:=by
  rintro rfl;rcases ap with h | ⟨b,o,h,_⟩
  ·exact h
  cases h
 have au:∀u∈O.flatten,u.oneCell'=true:=by
  intro u hu;obtain⟨x,aQ,am⟩:=Zfa.1 hu;obtain⟨i,ah,rfl⟩:=Zem aQ;rw[show O[i]=_ from hI i yE ah]at am;simp only[Zbc,Zbe,Zic]at am;rcases am with rfl | rfl | rfl | rfl<;>rfl
 obtain⟨a9,gd⟩:=zL ((w.alloc (.cells #[s.Aj,.slice A s.An G,.slice F s.Ac D] 30)).alloc (.cells #[zE,zH,zH] 30))
 have ai:Below w w a9:=wL
 have aZ:a9.heap.size=w+2:=xY
 have a7:a9.rangeAt w 0 [s.Aj,.slice A s.An G,.slice F s.Ac D]:=by rw[<-gd];exact Aa (Ae w _ 30) (Af _) yF
 have aG:a9.heap[w.heap.size+1]? =some (.cells #[zE,zH,zH] 30 (0,0)):=by rw[<-gd];have:=Zhe (w.alloc (.cells #[s.Aj,.slice A s.An G,.slice F s.Ac D] 30)) (.cells #[zE,zH,zH] 30);rwa[Zaq]at this
 have b3:=Zaa (Rd s b0 [s.Aj,.slice A s.An G,.slice F s.Ac D] a9 n yE (A0.Ab.below aw (ai.mono ac)))
 have d0:=a7 0 _ rfl
 have d1:=a7 1 _ rfl
 have d2:=a7 2 _ rfl
 simp only[Zac]at d0 d1 d2
 go_enter func7,ntmps7
 go_wp2_with fail
 refine b3.out.mono ?_
 rintro e W ⟨rfl,a6⟩
 have ak:Below w w W:=ai.trans (a6.mono yE)
 have b5:=a6.size
 have aC:=Aa a7 a6 yE
 have aA:=(a6.block (w+1) yE).trans aG
 clear d0 d1 d2 gd a7 aG
 go_wp2_with fail
 have M:Below w w (W.drewN 1)/\(W.drewN 1).rangeAt w 0 [s.Aj,.slice A s.An G,.slice F s.Ac D]:=⟨below_drewN ak ak.size 1,Ag aC yN⟩
 have b2:w.heap.size+2<=(W.drewN 1).heap.size:=by rw[Zhg];omega
 have ao:(W.drewN 1).heap[w.heap.size+1]? =some (.cells #[zE,zH,zH] 30 (0,0)):=by rw[Zhg];exact aA
 refine C1 [(0,.inl none),(1,.inl (some 0)),(2,.inl none),(3,.inl (some 0)),(5,.inl none),(6,.inl (some 0)),(4,.inr [0]),(7,.inr [0]),(8,.inl none),(9,.inr [0])]
  (fun _ X=>Below w w X/\X.rangeAt w 0 [s.Aj,.slice A s.An G,.slice F s.Ac D]) yG yG (fun _=>M) ?_
 refine Z3s ?_
 clear aC ak aA a6 b5 ai aZ
 generalize W.drewN 1=ae at M b2 ao|-
 have al:=Sr O A G ae n yE yE (ap.below (M.1.mono ac) (Zab _)) aN au
 rw[a8]at al
 have aU:=Zaa al
 have b4:=Zaa fun X (h:Below w w X)=>Ahd 27 (fun _ _=>rfl) s.Ac (.slice F s.Ac D) X n (Zag ac h.size) yE ((Al.Ab Cf.Ab).below ax (h.mono ac)) (fun y hy cs Y b1 hI=>Ajo y (an y hy).2 (an y hy).1 cs Y n (by have:=h.size;have:=b1.size;omega) hI)
 clear al aw aK ax ap an aN au
 refine Z02 ?_
 refine Av (.int .i64 s.Aj) yI (fun w' a5=>?_) (fun K J=>?_)
 ·have aR:=a5.2 0 _ rfl
  try simp only[Zaf,Zac]at aR
  go_simp
 refine Z2n ?_
 clear J K
 refine Z02 ?_
 refine Av (.slice A s.An G) yI (fun w' a5=>?_) (fun K J=>?_)
 ·have aT:=a5.2 1 _ rfl
  try simp only[Zaf,Zac]at aT
  go_simp
 refine Z2n ?_
 clear J K
 refine Z02 ?_
 refine Av (.slice F s.Ac D) yI (fun w' a5=>?_) (fun K J=>?_)
 ·have aV:=a5.2 2 _ rfl
  try simp only[Zaf,Zac]at aV
  go_simp
 refine Z2n ?_
 clear J K
 refine Ci (fun K J=>?_) (Bg M)
 go_wp2_with fail
 refine aU.out.mono ?_
 rintro e ad ⟨aH,rfl,aL,af⟩
 have az:=Z9 (by rw[a8];exact aL) a8 (fun i h1 h2=>hI i h1 h2)
 have aX:=az
 have aD:Au (A2 Dy ae) ae 53 4 ad s.An aH:=⟨O,⟨by rw[a8];exact aL,fun cs h=>by
  obtain⟨i,ah,rfl⟩:=Zem h;rw[show O[i]=_ from hI i yE ah];rfl⟩,a8,fun i h1 h2=>hI i h1 h2⟩
 obtain⟨a3,a4,rfl,-⟩:=az
 go_wp2_with fail
 have a0:Below w w ad/\ad.rangeAt w 0 [s.Aj,.slice A s.An G,.slice F s.Ac D]:=⟨M.1.trans (af.mono M.1.size),Aa M.2 af yE⟩
 have aP:=(af.block (w+1) yE).trans ao
 have b7:=af.size
 refine J _ _ (Bg a0) ?_
 clear J K
 refine Ci (fun K J=>?_) (Bg a0)
 go_wp2_with fail
 refine(b4.out _ a0.1).mono ?_
 rintro e T ⟨aH,rfl,V,ws,aI,ag,aE⟩
 have aq:=aE.Ac ag
 rw[aI]at aq
 have ay:=aq.fresh Cf.Ab
 have aW:=ay
 obtain⟨a2,a1,rfl,-⟩:=ay
 go_wp2_with fail
 have aa:Below w w T/\T.rangeAt w 0 [s.Aj,.slice A s.An G,.slice F s.Ac D]:=⟨a0.1.trans (V.mono a0.1.size),Aa a0.2 V yE⟩
 have ar:=(V.block (w+1) yE).trans aP
 have b8:=V.size
 have aF:T.there (w+1) 0 3:=by
  intro j aS;refine⟨?_,by simp[World.frozen?,ar]⟩;simp only[World.cell?,ar]
  match j,aS with
  | 0,_ | 1,_ | 2,_=>rfl
 have aB:=Zaa aF
 clear aF ar aP ao
 refine J _ _ (Bg aa) ?_
 clear J K
 refine Z02 ?_
 refine Ci (fun K J=>?_) (Bg aa)
 go_wp2_with (refine Zil rfl 30 _ _ rfl _ _ _ rfl rfl aB.out yG yL ?_)
 have H:=Ao T (w+1) [s.Aj,.slice a3 s.An a4,.slice a2 s.Ac a1] 0
 have aO:=Zar T (w+1) 0 [s.Aj,.slice a3 s.An a4,.slice a2 s.Ac a1] aB.out
 refine Z4a ?_
 generalize T.setCells (w+1) 0 [.int .i64 s.Aj,.slice a3 s.An a4,.slice a2 s.Ac a1]=ab at H aO|-
 have b9:=H.size
 have aJ:Below w w ab/\ab.rangeAt w 0 [s.Aj,.slice A s.An G,.slice F s.Ac D]:=⟨aa.1.grown H aa.1.size (fun r e=>yM),Ag aa.2 (H.block _ yE yF)⟩
 refine J _ _ (Bg aJ) ?_
 clear J K
 refine C7 ?_
 have aY:A0 ab (fun b=>w<=b/\b<ab) s [s.Aj,.slice a3 s.An a4,.slice a2 s.Ac a1]:=by
  refine⟨.slice a3 s.An a4,.slice a2 s.Ac a1,rfl,?_,?_⟩
  ·refine(Al.Ab Dy.Ab).wide ((Al.Ab Dy.Ab).block aX fun b U=>?_) fun b U=>⟨yE,yE⟩
   exact(H.block b yE yJ).trans (V.block b U.2)
  refine(Al.Ab Cf.Ab).wide ((Al.Ab Cf.Ab).block aW fun b U=>H.block b U.2 yJ) fun b U=>⟨yE,yE⟩
 have hA8:Aj4 ab w s [s.Aj,.slice a3 s.An a4,.slice a2 s.Ac a1]:=by
  exact⟨_,_,ae.heap.size,ad.heap.size,rfl,yE,yE,yE,((aD.below (A2.Ab Dy.Ab _) V (Zab _)).Om Dy.Ab H yE),fun k e=>(aD.lt k e).2,aq.Om Cf.Ab H yE,ws,aI,⟨fun p hp=>by have:=ag.1 p hp;omega,ag.2⟩,aE.Apy H yE ag.1⟩
 go_wp2_with fail
 exact Zho (Aq rfl _ _ _ _ _ rfl aO yG yG) rfl ⟨_,rfl,aY,aJ.1,hA8⟩
end
end Go.Proofs.YtafmoofknjncpaaGreatDoor
