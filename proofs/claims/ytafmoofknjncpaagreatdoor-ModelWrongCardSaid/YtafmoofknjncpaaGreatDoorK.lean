/- A part of the proof that ModelWrong holds: its theorems stand as they are typed. -/
import Derived.Test.YtafmoofknjncpaaGreatDoorJ
set_option linter.all false
set_option maxRecDepth 100000
set_option maxHeartbeats 8000000
namespace Go.Proofs.YtafmoofknjncpaaGreatDoor
open Tryz Go.RowKit Go.Shelf
theorem Apo (s:Ap) (r:A7) (l:List Dl) (i:Nat) (p:Dl) (h:H9 s r l i p) (af:i<l) (ak:l.length<=1000) (a3:p.Bw.size<=10000) (a0 bi Y:Nat) (cs:zP) (v:Value) (W:zN) (n:Nat) (a2:n<=W)
  (a1:W.rangeAt a0 0 cs) (T:L0 W n p cs) (F:W.rangeAt bi 0 [i]) (O:W.rangeAt Y 0 [v]) (a8:Al Bz 8 W (fun b=>b<n) l v):
  Calls prog 193 #[zK a0,zK bi,zK Y] W fun e w'=>e=.returned (.bool false)/\Below W W w':=by
 have c3:=Zaa (Ss s r l i p h a3 cs W n a2 T)
 obtain⟨al,an,ao,aq,av,aw,ax,rfl,-⟩:=Bz.open T
 have U:=Bm a1 yF
 have H:=Bm F yF
 have ab:=Bm O yF
 refine Z0x ?_
 intro d0 d1 d2 d3 d4 d5 d6 d7
 simp only[Zac]at d0 d1 d2 d3 d4 d5 d6 d7
 by_cases az:i=0
 ·have a4:decide ((0:Int) <i)=false:=Zhs yE
  clear h;go_enter func193,ntmps193
  go_wp2_with fail
  refine Z54 ?_;rintro e J ⟨rfl,aa⟩;have m0:=Aa F aa H 0 _ rfl;clear d0 d1 d2 d3 d4 d5 d6 d7;exact Z0F
 have a4:decide ((0:Int) <i)=true:=Zht yE
 cases a7:(p.kind==1)with
 | false=>
  have A:=K7 p.kind 1;rw[a7]at A;have a5:((p.kind.toNat:Int)==1)=false:=A;clear h;go_enter func193,ntmps193
  go_wp2_with fail
  refine c3.out.mono ?_;rintro e J ⟨rfl,aa⟩;have m0:=Aa F aa H 0 _ rfl;have G:=Aa a1 aa U 0 _ rfl;simp only[Zac]at m0 G;clear d0 d1 d2 d3 d4 d5 d6 d7;go_wp2_with fail
  go_ret;exact⟨rfl,aa⟩
 | true=>
  have A:=K7 p.kind 1;rw[a7]at A;have a5:((p.kind.toNat:Int)==1)=true:=A;obtain⟨a,c,rfl,ah,V⟩:=a8.at;have M:i - 1<l:=yE;obtain⟨b,o,rfl,ar,am,h1,h2⟩:=V (i - 1) M;have D:¬(l[i - 1].kind=1):=fun D=>h.apart (i - 1) l[i - 1] yE (Zam M) ⟨xZ,D⟩
  obtain⟨ai,q1,ap,ay,aA,ad,ae,rfl,-⟩:=Bz.open h2;generalize l[i - 1]=q at h1 D;have aj:((q.kind.toNat:Int)==1)=false:=D4 D;have a9:(i:Int) - 1=((i - 1:Nat):Int):=yE;have ag:((i - 1:Nat):Int) <l.length:=yE;have ac:IntKind.i64.wrap ((i:Int) - 1)=((i - 1:Nat):Int):=by rw[a9];exact Zcy _ yE
  have au:=Zaa ac;clear h V h2;generalize i - 1=j at*
  go_enter func193,ntmps193
  go_wp2_with fail
  refine c3.out.mono ?_;rintro e J ⟨rfl,aa⟩;have m0:=Aa F aa H 0 _ rfl;have G:=Aa a1 aa U 0 _ rfl;have v0:=Aa O aa ab 0 _ rfl;have a6:=Aa h1 aa yE 0 _ rfl;simp only[Zac,Zaf]at m0 G v0 a6;clear d0 d1 d2 d3 d4 d5 d6 d7;go_wp2_with fail
  go_ret;exact⟨rfl,aa⟩
theorem Apn (s:Ap) (H:s.An.length<=100) (r:A7) (l:List Dl) (i:Nat) (p:Dl) (h:H9 s r l i p) (a2:p.Bw.size<=10000) (V Y:Nat) (O cs:zP) (W:zN) (n:Nat) (A:n<=W)
  (hy:W.rangeAt V 0 O) (J:Br W n s O) (a1:W.rangeAt Y 0 cs) (a5:L0 W n p cs):
  Calls prog 195 #[zK V,zK Y] W fun e w'=>e=.returned (.bool false)/\Below W W w':=by
 have i0:=J
 obtain⟨ah,ai,aj,am,an,ao,ap,rfl,cl⟩:=Bz.open a5
 obtain⟨ac,aq,rfl,T,ag⟩:=J
 obtain⟨a9,a6,rfl,-⟩:=ag
 have F:=Ok s.Aj s.An ac p.text H W n A T a9 s.Ac a6
 obtain⟨ak,al,rfl,-⟩:=T
 have U:=Bm a1 yF
 have a4:=Bm hy yF
 have d1:=a1 1 _ rfl
 simp only[Zac]at d1
 refine Z3Y ?_
 intro en bz bo
 simp only[Zac]at en bz bo
 generalize ae:(Fp s.An p.text==some true)=q1 at F
 generalize ox:(Fp s.An p.text).isSome=a7 at F
 have c3:=Zaa F
 clear F ae
 by_cases We:p.kind=4
 ·have M:((p.kind.toNat:Int)==2)=false:=by rw[We];rfl
  have a3:((p.kind.toNat:Int)==4)=true:=by rw[We];rfl
  have D:L1 s p.Bw:=by
   rcases h.kinds with⟨e,_⟩ | ⟨e,_⟩ | ⟨e,_⟩ | ⟨_,_,_,_,D,_⟩
   ·rw[e]at We;simp at We
   ·rw[e]at We;simp at We
   ·rw[e]at We;simp at We
   exact D
  have ab:=Zaa fun X (g:Below W W X)=>Vo s H p.Bw D a2 _ _ X n (Zag A g.size) (A0.Ab.below i0 (g.mono A)) (cl.below (g.mono A))
  clear h D cl i0 We;go_enter func195,ntmps195
  go_wp2_with fail
  refine Z4l ?_;intro a8 aa b7 c4 hg nu G1 bD yg;have G:=Aa hy aa a4;have f0:=G 0 _ rfl;have f1:=G 1 _ rfl;have f2:=G 2 _ rfl;simp only[Zac]at f0 f1 f2;clear d1 en bz bo;go_wp2_with fail
  refine(ab.out _ aa).mono ?_;exact Z2J
 have a3:((p.kind.toNat:Int)==4)=false:=D4 We
 by_cases ll:p.kind=2
 ·have M:((p.kind.toNat:Int)==2)=true:=by rw[ll];rfl
  have a0:a7=true:=by
   rw[<-ox];rcases h.kinds with⟨e,_⟩ | ⟨_,_,_,_,e⟩ | ⟨e,_⟩ | ⟨e,_⟩
   ·rw[e]at ll;simp at ll
   ·exact e
   ·rw[e]at ll;simp at ll
   rw[e]at ll;simp at ll
  subst a0;exact Z33
 have M:((p.kind.toNat:Int)==2)=false:=D4 ll
 exact Z33
theorem Tx (r:A7) (Y:r.Bu.size<=10000) (p:Dl) (V:p.Bw.size<=10000) (a0:((p.kind.toNat:Int)==3)=false) (O:((p.kind.toNat:Int)==4)=false) (o8 qq:Nat) (F cs:zP) (W:zN) (n:Nat) (T:n<=W) (a1:W.rangeAt o8 0 F) (H:L0 W n p F) (a6:W.rangeAt qq 0 cs) (D:Fo W n r cs):
  Calls prog 196 #[zK o8,zK qq] W fun e w'=>e=.returned (.bool false)/\Below W W w':=by
 obtain⟨cu,ea,eb,fq,gx,hh,hi,rfl,G⟩:=Bz.open H
 have M:=D
 obtain⟨z0,b9,z2,z3,z4,z5,cc,bg,bk,z9,v,rfl,-,bn,br,rfl,-⟩:=Bj.open D
 go_enter func196,ntmps196
 go_wp2_with fail
 refine Z4n ?_
 intro a7 eh hn
 refine C1 [(0,.inl none),(1,.inl (some 0)),(2,.inl none),(3,.inl none),(4,.inl none),(5,.inl (some 0)),(6,.inl (some 0)),(7,.inr [0]),(8,.inl none),(9,.inl none),(10,.inl none),(11,.inl none),(12,.inl (some 0)),(13,.inl none),(14,.inl none),(15,.inl none),(16,.inl (some 0)),(18,.inl (some 0)),(17,.inr [0]),(19,.inr [0]),(20,.inl none),(21,.inl none),(22,.inl none),(23,.inl none)]
  (fun _ X=>X.rangeAt o8 0 [p.kind,p.text,p.group,cu,.float .f64 ea,eb,fq,.slice gx hh hi]/\X.rangeAt qq 0 [r.kind,r.Bh,r.Bp,z0,b9,z2,z3,z4,z5,cc,.slice bg bk z9,r.text,r.Az,.slice bn r.Aw br,r.A3,r.Bl]) yG yG (fun _=>a7) ?_
 refine Z4Z ?_
 intro c8
 generalize W.drewN 1=U at a7 c8|-
 clear M G
 refine Z2m ?_
 refine Av (.int .u8 p.kind.toNat) yI (fun w' A=>?_) (fun K J=>?_)
 ·have aq:=A.1 0 _ rfl
  exact Z1P
 refine Z42 ?_
 clear J K
 refine Z00 ?_
 refine Z4H ?_
 refine Ci (fun K J=>?_) (Bg a7)
 go_wp2_with fail
 refine J _ _ (Bg a7) ?_
 clear J K
 refine Z00 ?_
 refine Z2m ?_
 refine Av (.int .u8 p.kind.toNat) yI (fun w' A=>?_) (fun K J=>?_)
 ·have aq:=A.1 0 _ rfl
  exact Z1P
 refine Z42 ?_
 clear J K
 refine Z00 ?_
 refine Z4H ?_
 refine Ci (fun K J=>?_) (Bg a7)
 go_wp2_with fail
 refine J _ _ (Bg a7) ?_
 clear J K
 refine Ci (fun K J=>?_) (Bg a7)
 go_wp2_with fail
 refine J _ _ (Bg a7) ?_
 clear J K
 refine Z00 ?_
 refine Z2m ?_
 refine C7 ?_
 go_wp2_with fail
 go_ret
 exact⟨rfl,c8⟩
theorem Agj (r:A7) (a3:r.Bu.size<=10000) (p:Dl) (a9:p.Bw.size<=10000) (ad:((p.kind.toNat:Int)==3)=true) (a4:((p.kind.toNat:Int)==4)=false) (V:p.group<=Ei r) (o8 qq:Nat) (M cs:zP) (W:zN) (n:Nat) (F:n<=W) (a1:W.rangeAt o8 0 M) (a2:L0 W n p M) (a6:W.rangeAt qq 0 cs) (H:Fo W n r cs):
  Calls prog 196 #[zK o8,zK qq] W fun e w'=>e=.returned (.bool false)/\Below W W w':=by
 obtain⟨cu,ea,eb,fq,gx,hh,hi,rfl,a0⟩:=Bz.open a2
 have U:=H
 obtain⟨z0,b9,z2,z3,z4,z5,cc,bg,bk,z9,v,rfl,-,bn,br,rfl,-⟩:=Bj.open H
 go_enter func196,ntmps196
 go_wp2_with fail
 refine Z4n ?_
 intro a7 eh hn
 refine C1 [(0,.inl none),(1,.inl (some 0)),(2,.inl none),(3,.inl none),(4,.inl none),(5,.inl (some 0)),(6,.inl (some 0)),(7,.inr [0]),(8,.inl none),(9,.inl none),(10,.inl none),(11,.inl none),(12,.inl (some 0)),(13,.inl none),(14,.inl none),(15,.inl none),(16,.inl (some 0)),(18,.inl (some 0)),(17,.inr [0]),(19,.inr [0]),(20,.inl none),(21,.inl none),(22,.inl none),(23,.inl none)]
  (fun _ X=>X.rangeAt o8 0 [p.kind,p.text,p.group,cu,.float .f64 ea,eb,fq,.slice gx hh hi]/\X.rangeAt qq 0 [r.kind,r.Bh,r.Bp,z0,b9,z2,z3,z4,z5,cc,.slice bg bk z9,r.text,r.Az,.slice bn r.Aw br,r.A3,r.Bl]) yG yG (fun _=>a7) ?_
 refine Z4Z ?_
 intro c8
 generalize W.drewN 1=a8 at a7 c8|-
 have O:=Zaa fun X (h:Below W W X)=>Oq r _ X n a3 (Zag F h.size) (Bj.Ab.below U (h.mono F))
 have G:decide (Ei r<p.group)=false:=Zhs yE
 have T:=Zaa G
 generalize Ei r=ac at O T
 clear G V
 clear U a0
 refine Z2m ?_
 refine Av (.int .u8 p.kind.toNat) yI (fun w' ab=>?_) (fun K J=>?_)
 ·have aq:=ab.1 0 _ rfl
  exact Z1P
 refine Z42 ?_
 clear J K
 refine Z00 ?_
 refine Av (.int .i64 p.group) yI (fun w' ab=>?_) (fun K J=>?_)
 ·have cq:=ab.1 2 _ rfl
  simp only[Zac]at cq;go_simp
 refine Z42 ?_
 clear J K
 refine Av (.agg #[r.kind,r.Bh,r.Bp,z0,b9,z2,z3,z4,z5,cc,.slice bg bk z9,r.text,r.Az,.slice bn r.Aw br,r.A3,r.Bl]) yI (fun w' ab=>?_) (fun K J=>?_)
 ·have aq:=ab.2 0 _ rfl
  exact Z0U
 refine Z42 ?_
 clear J K
 refine Ci (fun K J=>?_) (Bg a7)
 go_wp2_with fail
 refine(O.out _ c8).mono ?_
 rintro e a5 ⟨rfl,D⟩
 go_wp2_with fail
 have Y:=c8.trans (D.mono c8.size)
 have A:=And.intro (Aa a7.1 D wX) (Aa a7.2 D wX)
 refine J _ _ (Bg A) ?_
 clear J K
 have aa:=T.out
 refine Z00 ?_
 refine Z2m ?_
 refine Av (.int .u8 p.kind.toNat) yI (fun w' ab=>?_) (fun K J=>?_)
 ·have aq:=ab.1 0 _ rfl
  exact Z1P
 refine Z42 ?_
 clear J K
 refine Z00 ?_
 refine Z4H ?_
 refine Ci (fun K J=>?_) (Bg A)
 go_wp2_with fail
 refine J _ _ (Bg A) ?_
 clear J K
 refine Ci (fun K J=>?_) (Bg A)
 go_wp2_with fail
 refine J _ _ (Bg A) ?_
 clear J K
 refine Z00 ?_
 refine Z2m ?_
 refine C7 ?_
 go_wp2_with fail
 go_ret
 exact⟨rfl,Y⟩
theorem Ads (r:A7) (aa:r.Bu.size<=10000) (p:Dl) (a5:p.Bw.size<=10000) (aj:((p.kind.toNat:Int)==3)=false) (ad:((p.kind.toNat:Int)==4)=true) (a3:Gi p.Bw.pre<=Ei r) (o8 qq:Nat) (U cs:zP) (W:zN) (n:Nat) (D:n<=W) (a1:W.rangeAt o8 0 U) (a8:L0 W n p U) (a6:W.rangeAt qq 0 cs) (T:Fo W n r cs):
  Calls prog 196 #[zK o8,zK qq] W fun e w'=>e=.returned (.bool false)/\Below W W w':=by
 obtain⟨cu,ea,eb,fq,gx,hh,hi,rfl,Y⟩:=Bz.open a8
 have a2:=T
 obtain⟨z0,b9,z2,z3,z4,z5,cc,bg,bk,z9,v,rfl,-,bn,br,rfl,-⟩:=Bj.open T
 go_enter func196,ntmps196
 go_wp2_with fail
 refine Z4n ?_
 intro a7 eh hn
 refine C1 [(0,.inl none),(1,.inl (some 0)),(2,.inl none),(3,.inl none),(4,.inl none),(5,.inl (some 0)),(6,.inl (some 0)),(7,.inr [0]),(8,.inl none),(9,.inl none),(10,.inl none),(11,.inl none),(12,.inl (some 0)),(13,.inl none),(14,.inl none),(15,.inl none),(16,.inl (some 0)),(18,.inl (some 0)),(17,.inr [0]),(19,.inr [0]),(20,.inl none),(21,.inl none),(22,.inl none),(23,.inl none)]
  (fun _ X=>X.rangeAt o8 0 [p.kind,p.text,p.group,cu,.float .f64 ea,eb,fq,.slice gx hh hi]/\X.rangeAt qq 0 [r.kind,r.Bh,r.Bp,z0,b9,z2,z3,z4,z5,cc,.slice bg bk z9,r.text,r.Az,.slice bn r.Aw br,r.A3,r.Bl]) yG yG (fun _=>a7) ?_
 refine Z4Z ?_
 intro c8
 generalize W.drewN 1=a4 at a7 c8|-
 have V:=Zaa fun X (h:Below W W X)=>Oq r _ X n aa (Zag D h.size) (Bj.Ab.below a2 (h.mono D))
 have a0:=Zaa (Ajg p.Bw _ a4 n a5 (Zag D c8.size) (Y.below (c8.mono D)))
 have O:decide (Ei r<Gi p.Bw.pre)=false:=Zhs yE
 have M:=Zaa O
 generalize Gi p.Bw.pre=ah at a0 M
 generalize Ei r=ai at V M
 clear O a3
 clear a2 Y
 refine Z2m ?_
 refine Av (.int .u8 p.kind.toNat) yI (fun w' ab=>?_) (fun K J=>?_)
 ·have aq:=ab.1 0 _ rfl
  exact Z1P
 refine Z42 ?_
 clear J K
 refine Z00 ?_
 refine Z4H ?_
 refine Ci (fun K J=>?_) (Bg a7)
 go_wp2_with fail
 refine J _ _ (Bg a7) ?_
 clear J K
 refine Z00 ?_
 refine Z2m ?_
 refine Av (.int .u8 p.kind.toNat) yI (fun w' ab=>?_) (fun K J=>?_)
 ·have aq:=ab.1 0 _ rfl
  exact Z1P
 refine Z42 ?_
 clear J K
 refine Z00 ?_
 refine Av (.agg #[cu,.float .f64 ea,eb,fq,.slice gx hh hi]) yI (fun w' ab=>?_) (fun K J=>?_)
 ·have ed:=ab.1 3 _ rfl
  have ez:=ab.1 4 _ rfl;have ja:=ab.1 5 _ rfl;have jh:=ab.1 6 _ rfl;have jd:=ab.1 7 _ rfl;simp only[Zac]at ed ez ja jh jd;go_simp
 refine Z42 ?_
 clear J K
 refine Av (.agg #[r.kind,r.Bh,r.Bp,z0,b9,z2,z3,z4,z5,cc,.slice bg bk z9,r.text,r.Az,.slice bn r.Aw br,r.A3,r.Bl]) yI (fun w' ab=>?_) (fun K J=>?_)
 ·have aq:=ab.2 0 _ rfl
  exact Z0U
 refine Z42 ?_
 clear J K
 refine Ci (fun K J=>?_) (Bg a7)
 go_wp2_with fail
 refine(a0.out).mono ?_
 rintro e ae ⟨rfl,G⟩
 go_wp2_with fail
 have A:=c8.trans (G.mono c8.size)
 have F:=And.intro (Aa a7.1 G wX) (Aa a7.2 G wX)
 refine J _ _ (Bg F) ?_
 clear J K
 refine Ci (fun K J=>?_) (Bg F)
 go_wp2_with fail
 refine(V.out _ A).mono ?_
 rintro e af ⟨rfl,H⟩
 go_wp2_with fail
 have ac:=A.trans (H.mono A.size)
 have a9:=And.intro (Aa F.1 H (by have:=A.size;omega)) (Aa F.2 H (by have:=A.size;omega))
 refine J _ _ (Bg a9) ?_
 clear J K
 have ag:=M.out
 refine Z00 ?_
 refine Z2m ?_
 refine C7 ?_
 go_wp2_with fail
 go_ret
 exact⟨rfl,ac⟩
theorem Apm (s:Ap) (r:A7) (U:r.Bu.size<=10000) (l:List Dl) (i:Nat) (p:Dl) (h:H9 s r l i p) (O:p.Bw.size<=10000) (D F:Nat) (A cs:zP) (W:zN) (n:Nat) (J:n<=W) (G:W.rangeAt D 0 A) (T:L0 W n p A) (H:W.rangeAt F 0 cs) (M:Fo W n r cs):
  Calls prog 196 #[zK D,zK F] W fun e w'=>e=.returned (.bool false)/\Below W W w':=by
 rcases h.kinds with⟨e,_⟩ | ⟨e,_⟩ | ⟨e,_,_,_,V,_⟩ | ⟨e,_,_,_,_,V⟩
 ·exact Tx r U p O yS yS D F A cs W n J G T H M
 ·exact Tx r U p O yS yS D F A cs W n J G T H M
 ·exact Agj r U p O yS yS V D F A cs W n J G T H M
 exact Ads r U p O yS yS V D F A cs W n J G T H M
end Go.Proofs.YtafmoofknjncpaaGreatDoor
