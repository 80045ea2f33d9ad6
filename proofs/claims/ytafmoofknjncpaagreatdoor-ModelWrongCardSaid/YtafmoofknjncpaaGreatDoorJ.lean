/- A part of the proof that ModelWrong holds: its theorems stand as they are typed. -/
import Derived.Test.YtafmoofknjncpaaGreatDoorI
set_option linter.all false
set_option maxRecDepth 100000
set_option maxHeartbeats 8000000
namespace Go.Proofs.YtafmoofknjncpaaGreatDoor
section
open Tryz Go.RowKit Go.Shelf
theorem Abw (t:zS) (h1:(1:Int)<=t.size) (h2:(t.size:Int)<=64) (a:zO) (c:Nat) (v:Value) (A:v.oneCell'=true) (A3:zS) (Bl:Int) (w:zN):
  Calls prog 182 #[.agg #[.int .u8 2,zA,zA,zJ,zI,zI,zI,zI,zE,zE,.slice a 0 c,t,zE,v,A3,Bl]] w fun e w'=>e=.returned (.bool true)/\Below w w w':=by
 have c0:=Af (w:=w) (.cells #[.int .u8 2,zA,zA,zJ,zI,zI,zI,zI,zE,zE,.slice a 0 c,t,zE,v,A3,Bl] 48)
 have df:=Ae w [.int .u8 2,zA,zA,zJ,zI,zI,zI,zI,zE,zE,.slice a 0 c,t,zE,v,A3,Bl] 48
 exact Z0Q
theorem Ahb (a:zO) (c:Nat) (v:Value) (D:v.oneCell'=true) (A3:zS) (Bl:Int) (w:zN):
  Calls prog 182 #[.agg #[.int .u8 3,zA,zA,zJ,zI,zI,zI,zI,zE,zE,.slice a 0 c,zC,zE,v,A3,Bl]] w fun e w'=>e=.returned (.bool true)/\Below w w w':=by
 have c0:=Af (w:=w) (.cells #[.int .u8 3,zA,zA,zJ,zI,zI,zI,zI,zE,zE,.slice a 0 c,zC,zE,v,A3,Bl] 48)
 have df:=Ae w [.int .u8 3,zA,zA,zJ,zI,zI,zI,zI,zE,zE,.slice a 0 c,zC,zE,v,A3,Bl] 48
 have A:=Zaa fun X=>Qs a c X
 go_enter func182,ntmps182
 go_wp2_with fail
 refine(A.out _).mono ?_
 refine Z2S ?_
 intro a8 aa b7 c7
 have F:=c7.size
 have G:w.heap.size<a8:=xT
 have d0:=b7 0 _ rfl
 have d11:=b7 11 _ rfl
 have d12:=b7 12 _ rfl
 simp only[Zac]at d0 d11 d12
 go_wp2_with fail
 go_ret
 exact⟨rfl,c7⟩
theorem Xm (k:Int) (h1:1<=k) (h2:k<=1000) (a:zO) (c:Nat) (v:Value) (A:v.oneCell'=true) (A3:zS) (Bl:Int) (w:zN):
  Calls prog 182 #[.agg #[.int .u8 4,zA,zA,zJ,zI,zI,zI,zI,zE,zE,.slice a 0 c,zC,k,v,A3,Bl]] w fun e w'=>e=.returned (.bool true)/\Below w w w':=by
 have c0:=Af (w:=w) (.cells #[.int .u8 4,zA,zA,zJ,zI,zI,zI,zI,zE,zE,.slice a 0 c,zC,k,v,A3,Bl] 48)
 have df:=Ae w [.int .u8 4,zA,zA,zJ,zI,zI,zI,zI,zE,zE,.slice a 0 c,zC,k,v,A3,Bl] 48
 exact Z0Q
theorem Abv (t:Rx) (O:¬t.Cx=0) (V:t.size<=10000) (b1 b2:Bool) (z0:UInt8) (A z2 z3 z4:UInt64) (z5 H:Int) (D:zO) (F z9:Nat) (v:Value) (a1:v.oneCell'=true) (A3:zS) (Bl:Int) (w:zN) (n:Nat) (M:n<=w)
  (U:Bo w n t [z0,A,z2,z3,z4,z5,H,.slice D F z9]):
  Calls prog 182 #[.agg #[.int .u8 1,b1,b2,z0,A,z2,z3,z4,z5,H,.slice D F z9,zC,zE,v,A3,Bl]] w fun e w'=>e=.returned (.bool true)/\Below w w w':=by
 have G:=Af (w:=w) (.cells #[.int .u8 1,b1,b2,z0,A,z2,z3,z4,z5,H,.slice D F z9,zC,zE,v,A3,Bl] 48)
 have Y:=Ae w [.int .u8 1,b1,b2,z0,A,z2,z3,z4,z5,H,.slice D F z9,zC,zE,v,A3,Bl] 48
 have a0:=Zaa (Ah7 t _ _ n V O (Zag M G.size) (U.below (G.mono M)))
 cases b1 with
 | true=>
  go_enter func182,ntmps182
  go_wp2_with fail
  go_ret;exact⟨rfl,Af _⟩
 | false=>
  cases b2 with
  | true=>
   go_enter func182,ntmps182
   go_wp2_with fail
   go_ret;exact⟨rfl,Af _⟩
  | false=>
   go_enter func182,ntmps182
   go_wp2_with fail
   refine a0.out.mono ?_;rintro e T ⟨rfl,aa⟩;have J:=Aa Y aa yF;have W:=G.trans (aa.mono G.size);have a2:w.heap.size<T:=xT;have d0:=J 0 _ rfl;have d11:=J 11 _ rfl;have d12:=J 12 _ rfl;simp only[Zac]at d0 d11 d12;go_wp2_with fail
   go_ret;exact⟨rfl,W⟩
theorem Al.one {α:Type} {I:World->(Nat->Prop)->α->List Value->Prop} {K:Nat} {w:zN} {S:zT} {l:List α} {v:Value} (h:Al I K w S l v):v.oneCell'=true:=by obtain⟨a,c,rfl,_⟩:=h;rfl
theorem Ph {w:zN} {n:Nat} {A:zP} (h:Bo w n Jn A):∃a c,A=[.int .u8 0,.int .u64 0,.int .u64 0,.int .u64 0,.int .u64 0,.int .i64 0,.int .i64 0,.slice a 0 c]:=by
 obtain⟨a,c,e⟩:=Bo.shape h;exact⟨a,c,e⟩
def Wq (r:A7):Prop:=r.Bu.size<=10000/\(r.kind=1->¬r.Bu.Cx=0)
theorem Ai8 (r:A7) (h:Io r) (F:Wq r) (cs:zP) (w:zN) (n:Nat) (H:n<=w) (D:Fo w n r cs):
  Calls prog 182 #[.agg cs.toArray] w fun e w'=>e=.returned (.bool true)/\Below w w w':=by
 obtain⟨kind,Bh,Bp,Bu,text,Az,Aw,A3,Bl⟩:=r
 rcases h with⟨rfl,rfl,rfl⟩ | ⟨rfl,rfl,rfl,rfl,rfl,h1,h2⟩ | ⟨rfl,rfl,rfl,rfl,rfl,rfl⟩ | ⟨rfl,rfl,rfl,rfl,rfl,h1,h2⟩
 ·obtain⟨z0,J,z2,z3,z4,z5,T,M,O,z9,v,rfl,A,hA⟩:=Bj.open D
  exact Abv Bu (F.2 rfl) F.1 Bh Bp z0 J z2 z3 z4 z5 T M O z9 v hA.one A3 Bl w n H A
 ·obtain⟨G,v,rfl,A,hA⟩:=D
  obtain⟨a,c,rfl⟩:=Ph A;exact Abw text (by simp only at h1;omega) (by simp only at h2;omega) a c v hA.one A3 Bl w
 ·obtain⟨G,v,rfl,A,hA⟩:=D
  obtain⟨a,c,rfl⟩:=Ph A;exact Ahb a c v hA.one A3 Bl w
 obtain⟨G,v,rfl,A,hA⟩:=D
 obtain⟨a,c,rfl⟩:=Ph A
 exact Xm Az h1 h2 a c v hA.one A3 Bl w
theorem Ah9 (r:A7) (h:Io r) (G:Wq r) (a5:r.Aw.length<=8) (F:Nat) (cs:zP) (W:zN) (n:Nat) (H:n<=W) (a1:W.rangeAt F 0 cs) (D:Fo W n r cs):
  Calls prog 181 #[zK F] W fun e w'=>e=.returned (.bool false)/\Below W W w':=by
 have M:=Zaa (Ai8 r h G cs W n H D)
 obtain⟨z0,T,z2,z3,z4,z5,a4,V,Y,z9,v,rfl,a0,a2,a3,rfl,-⟩:=Bj.open D
 have hlen:decide ((8:Int) <r.Aw.length)=false:=Zhs yE
 have U:=Bm a1 yF
 refine Z0x ?_
 intro d0 d1 d2 d3 d4 d5 d6 d7
 have d8:=a1 8 _ rfl
 have d9:=a1 9 _ rfl
 have d10:=a1 10 _ rfl
 have d11:=a1 11 _ rfl
 have d12:=a1 12 _ rfl
 have d13:=a1 13 _ rfl
 have d14:=a1 14 _ rfl
 have d15:=a1 15 _ rfl
 simp only[Zac]at d0 d1 d2 d3 d4 d5 d6 d7 d8 d9 d10 d11 d12 d13 d14 d15
 go_enter func181,ntmps181
 go_wp2_with fail
 refine M.out.mono ?_
 rintro e O ⟨rfl,A⟩
 have J:=Aa a1 A U 13 _ rfl
 simp only[Zac]at J
 clear d0 d1 d2 d3 d4 d5 d6 d7 d8 d9 d10 d11 d12 d13 d14 d15
 go_wp2_with fail
 go_ret
 exact⟨rfl,A⟩
theorem Ah8 (r:A7) (total:Int) (M:r.kind=1->F3 r.Bu) (Y:r.kind=1->total<=600) (G F:Nat) (cs:zP) (W:zN) (n:Nat) (J:n<=W) (a1:W.rangeAt G 0 cs) (H:W.rangeAt F 0 [total]) (O:Fo W n r cs):
  Calls prog 183 #[zK G,zK F] W fun e w'=>e=.returned (.bool false)/\Below W W w':=by
 obtain⟨z0,a3,z2,z3,z4,z5,a8,a4,a5,z9,v,rfl,T,a6,a7,rfl,-⟩:=Bj.open O
 have U:=Bm a1 yF
 have hbt:=Bm H yF
 refine Z0x ?_
 intro d0 d1 d2 d3 d4 d5 d6 d7
 have d8:=a1 8 _ rfl
 have d9:=a1 9 _ rfl
 have d10:=a1 10 _ rfl
 simp only[Zac]at d0 d1 d2 d3 d4 d5 d6 d7 d8 d9 d10
 by_cases A:r.kind=1
 ·have D:=H4 A
  have a0:=Zaa (S8 r.Bu r.Bh r.Bp _ W n (M A) J T);have h6:decide ((600:Int) <total)=false:=Zhs (by have:=Y A;omega);have V:((r.kind.toNat:Int)==1)=true:=D;go_enter func183,ntmps183
  go_wp2_with fail
  refine a0.out.mono ?_;rintro e a2 ⟨rfl,aa⟩;have t0:=Aa H aa hbt 0 _ rfl;exact Z0F
 have D:=D4 A
 have V:((r.kind.toNat:Int)==1)=false:=D
 go_enter func183,ntmps183
 go_wp2_with fail
 go_ret
 exact⟨rfl,Zai _ _⟩
theorem Aov (s:Ap) (M:Ef s) (r:A7) (A:if r.A3.toList=[]then 0<=r.Bl/\r.Bl<=255 else(Er s r.A3).isSome=true/\r.Bl=0) (H G:Nat) (D cs:zP) (W:zN) (n:Nat) (J:n<=W) (a1:W.rangeAt G 0 cs) (hy:W.rangeAt H 0 D) (O:Fo W n r cs) (F:Br W n s D):
  Calls prog 184 #[zK H,zK G] W fun e w'=>e=.returned (.bool false)/\Below W W w':=by
 have hr:=Zaa (Ur s M r.A3 D W n J F)
 obtain⟨af,ah,rfl,⟨ac,ad,rfl,-⟩,ae,ab,rfl,-⟩:=F
 obtain⟨z0,Y,z2,z3,z4,z5,a6,a0,a2,z9,v,rfl,a3,a4,a5,rfl,-⟩:=Bj.open O
 have U:=Bm a1 yF
 have d14:=a1 14 _ rfl
 refine Z3Y ?_
 intro en bz bo
 simp only[Zac]at d14 en bz bo
 generalize ag:r.A3=A3 at*
 generalize Er s A3=st at*
 by_cases a7:A3.toList=[]
 ·rw[if_pos a7]at A
  obtain⟨g1,g2⟩:=A;have T:(A3.toList==([]:List UInt8))=true:=xZ;go_enter func184,ntmps184
  go_wp2_with fail
  refine Z3m ?_;intro a8 aa bck bfq;simp only[Zac]at bck bfq;clear d14 en bz bo;go_wp2_with fail
  refine(Hq _ _ _ _ g1 g2).mono ?_;rintro e V ⟨rfl,rfl⟩;exact Z0F
 rw[if_neg a7]at A
 obtain⟨g1,g2⟩:=A
 have T:(A3.toList==([]:List UInt8))=false:=xZ
 rw[g1]at hr
 generalize((st.getD 0:Nat):Int)=a9 at hr
 go_enter func184,ntmps184
 go_wp2_with fail
 refine Z3m ?_
 intro a8 aa bck bfq
 rw[g2]at bfq
 simp only[Zac]at bck bfq
 clear d14 en bz bo
 exact Z0F
theorem Ano (s:Ap) (T:Ef s) (r:A7) (total:Nat) (D:Wp s r total) (U:r.Bu.size<=10000) (O cs:zP) (w:zN) (n:Nat) (J:n<=w) (M:Br w n s O) (b8:Fo w n r cs):
  Calls prog 147 #[.agg O.toArray,.agg cs.toArray,total] w fun e w'=>e=.returned (.int .i64 0)/\Below w w w':=by
 have V:Wq r:=⟨U,fun F=>(D.Ea F).clean.Al0⟩
 have i0:=M
 have qg:=b8
 obtain⟨Y,a0,rfl,⟨ei,ej,rfl,-⟩,hd,e9,rfl,-⟩:=M
 obtain⟨z0,b9,z2,z3,z4,z5,cc,bg,bk,z9,v,rfl,bl,bn,br,rfl,-⟩:=Bj.open b8
 refine Z2x ?_
 intro W bm el na c4 dt du
 have hr:=Zaa (Jl [⟨304,181,#[zK (w+1)]⟩,⟨305,183,#[zK (w+1),zK (w+2)]⟩,⟨306,184,#[zK w,zK (w+1)]⟩] W (w+3) 3 na.symm rfl yF
  (by intro y hy;simp only[Zbc,Zbe,Zic]at hy;rcases hy with rfl | rfl | rfl<;>exact fun _ _=>rfl)
  (by
   intro y hy X A;have H:=el.trans (A.mono yE);have:=H.size;have G:=Bj.Ab.below qg (H.mono J);simp only[Zbc,Zbe,Zic]at hy;rcases hy with rfl | rfl | rfl
   ·exact Ah9 r D.fields V D.Fm _ _ X n yE (Aa dt A yE) G
   ·exact Ah8 r total D.Ea (fun F=>by have:=D.all F;omega) _ _ _ X n yE (Aa dt A yE) (Aa du A yE) G
   exact Aov s T r D.A3 _ _ _ _ X n yE (Aa dt A yE) (Aa c4 A yE) G (A0.Ab.below i0 (H.mono J))))
 exact Z3V
end
section
open Tryz Go.RowKit Go.Shelf
attribute [local go_sem] Oper.semAt_some
theorem Tf (t:Ex) (cs:zP) (w:zN) (n:Nat) (a9:t.size<=10000) (W:n<=w) (O:Ch w n t cs) (aw:F4 t):
  Calls prog 169 #[.agg cs.toArray] w fun e w'=>e=.returned (.bool true)/\Below w w w':=by
 obtain⟨z0,b9,z2,z3,bg,bk,z9,rfl⟩:=Ch.G2 O
 have T:Below w w ((w.alloc (.cells #[z0,.float .f64 b9,z2,z3,.slice bg bk z9] 118)).alloc (.cells #[zA] 4)):=(Af _).alloc yF _
 have a1:=Aa (Ae w [z0,.float .f64 b9,z2,z3,.slice bg bk z9] 118) (Af (w:=w.alloc (.cells #[z0,.float .f64 b9,z2,z3,.slice bg bk z9] 118)) (.cells #[zA] 4)) yF
 have a2:Boxed ((w.alloc (.cells #[z0,.float .f64 b9,z2,z3,.slice bg bk z9] 118)).alloc (.cells #[zA] 4)) (w+1) 4 (.bool false):=by
  have:=Zco (w.alloc (.cells #[z0,.float .f64 b9,z2,z3,.slice bg bk z9] 118)) 4 (.bool false);exact Z1z
 have V:((w.alloc (.cells #[z0,.float .f64 b9,z2,z3,.slice bg bk z9] 118)).alloc (.cells #[zA] 4)).heap.size=w.heap.size+2:=yF
 have U:=O.below (T.mono W)
 refine Z4f ?_
 refine Zhp func169 rfl trivial ?_ rfl
 simp only[ntmps169,Zfk,Zao,Zav,Nat.reduceAdd,Nat.reduceSub,Zcb,Zcc,Zff,Zdl,Zau,Zas]
 refine Zii.2 ?_
 go_wp2_with fail
 refine(Kz t [z0,.float .f64 b9,z2,z3,.slice bg bk z9] _ n a9 yE U).mono ?_
 rintro e a8 ⟨rfl,D⟩
 rw[V]at D
 have b7:=Aa a1 D yE
 have aa:=U.below (D.mono yE)
 have ae:=D.size
 rw[V]at ae
 have c7:Below w w a8:=T.trans (D.mono yE)
 refine Z0k ?_
 intro d0 d1 d2 d3 d4
 have ai:w.heap.size<a8:=yE
 have a3:Boxed a8 (w+1) 4 (.bool false):=(D.block _ yE).trans a2
 clear a1 V T U D a2
 go_wp2_with fail
 refine Z35 ?_
 intro ag cr
 go_wp2_with fail
 have al:ag.heap.size=a8+1:=xK
 have Y:Below w w ag:=uP
 have ah:ag.rangeAt a8 0 [z0,.float .f64 b9,z2,z3,.slice bg bk z9]:=by
  rw[<-cr];exact Ae a8 [z0,.float .f64 b9,z2,z3,.slice bg bk z9] 118
 have ac:Boxed ag (w+1) 4 (.bool false):=by
  rw[<-cr];exact a3.alloc _
 have af:=O.below (Y.mono W)
 clear cr d0 d1 d2 d3 d4 b7 aa c7 a3
 refine(Zii (n:=5)).1 (Gp (gf:=143) (lb:=#[zK a8]) rfl (fun _ _=>rfl)
  (Wb t _ ag n a8 a8 yE af ah (.inr (Zab _)) yE yE) (fun k args X ⟨_,es,e,_⟩=>yS) Cg.trans (fun X kk aj ab h1 h2 h3 h4=>Cg.put h3 h4 h2 ab)
  (fun k X=>Boxed X (w+1) 4 (.bool false)/\Below w w X) (fun _ _=>False) (fun k=>At.and (fun A C row h H a6=>h.kept H (fun e=>sU)) (E3 yE (Zab _))) (fun c=>At.pure _) ⟨ac,Y⟩
  (fun k M X=>∃(G:Nat) (es:zP) (v9:Value) (a7:k<t.pre),M={tmps:=#[.agg #[z0,.float .f64 b9,z2,z3,.slice bg bk z9],.pointer (some ⟨w,0,none⟩),.pointer (some ⟨w+1,0,none⟩),.pointer (some ⟨G,0,none⟩),.agg #[z0,.float .f64 b9,z2,z3,.slice bg bk z9],.bool true,.bool false,.agg #[z0,.float .f64 b9,z2,z3,.slice bg bk z9],.func (.func 143) #[] #[zK a8],v9,undef,undef,undef],defers:=[]}/\X.rangeAt G 0 es/\Ch X n t.pre[k] es)
  (fun k M A C row ⟨G,es,v10,a7,e,h1,h2⟩ H a6=>⟨G,es,v10,a7,e,Dg A C row h1 H a6,Tree.In.B8 A C row h2 H a6⟩) ?assign ?body ?done ?stop)
 case assign=>
  rintro kk k args X K a7 hI ⟨a4,es,rfl,lg⟩ J;obtain⟨a,c,rfl⟩:=Ch.shape lg;refine Z0y ?_;gi_wp2_with fail
  refine J _ _ ((Zdc _ _).from _) (Cg.below (Af _) (Zab _)) ⟨hI.1.alloc _,hI.2.alloc hI.2.size _⟩ ⟨X,_,_,a4,rfl,Ae X [.int .u8 t.pre[k].Ak.kind.toNat,.float .f64 t.pre[k].Ak.num,.string t.pre[k].Ak.name,.int .i64 t.pre[k].Ak.cap,.slice a t.pre[k].Cb.length c] _,?_⟩;exact Z2L
 case body=>
  rintro kk k M X a7 ak hI ⟨G,es,v10,a4,rfl,F,lg⟩;have a5:=aw t.pre[k] (Zat _);have ad:t.pre[k].Cb.length<=1000000:=by
   have:=Aa3 t t.pre[k] (Zat _);have:=Ae0 t.pre[k];omega
  have a0:=lg;obtain⟨a,c,rfl⟩:=Ch.shape lg;have ia:=An4 t.pre[k].Ak t.pre[k].Cb _ X n (by have:=hI.2.size;omega) ad (by rw[Tree.eta];exact a0) a5;clear a0 lg a5 aw;have d0:=F 0 _ rfl;have d1:=F 1 _ rfl;have d2:=F 2 _ rfl;have d3:=F 3 _ rfl;have d4:=F 4 _ rfl;simp only[Zac]at d0 d1 d2 d3 d4;exact Z2G
 case done=>
  exact Z1o
 case stop=>
  exact Z1Z
end
section
open Tryz Go.RowKit Go.Shelf
theorem Aii (s:Ap) (M:s.An.length<=100) (x:zS) (H:Fp s.An x=some true) (G:Nat) (D:zP) (W:zN) (n:Nat) (J:n<=W) (hy:W.rangeAt G 0 D) (O:Br W n s D):
  Calls prog 229 #[x,zK G] W fun e w'=>e=.returned (.bool false)/\Below W W w':=by
 obtain⟨V,a3,rfl,F,Y⟩:=O
 obtain⟨U,T,rfl,-⟩:=Y
 have A:=Ok s.Aj s.An V x M W n J F U s.Ac T
 rw[H]at A
 have c3:=Zaa A
 obtain⟨a1,a2,rfl,-⟩:=F
 clear A
 have d0:=hy 0 _ rfl
 have d1:=hy 1 _ rfl
 have d2:=hy 2 _ rfl
 simp only[Zac]at d0 d1 d2
 go_enter func229,ntmps229
 go_wp2_with fail
 refine Z54 ?_
 rintro e a0 ⟨rfl,aa⟩
 exact Z0F
theorem Vo (s:Ap) (ab:s.An.length<=100) (t:Ex) (ak:L1 s t) (ac:t.size<=10000) (a5 cs:zP) (w:zN) (n:Nat) (D:n<=w) (V:Br w n s a5) (F:Ch w n t cs):
  Calls prog 189 #[.agg a5.toArray,.agg cs.toArray] w fun e w'=>e=.returned (.bool true)/\Below w w w':=by
 have a7:=V
 have a9:=F
 obtain⟨ar,au,rfl,⟨H,J,rfl,-⟩,M,G,rfl,-⟩:=V
 obtain⟨ag,ah,ai,aj,al,am,an,rfl⟩:=Ch.G2 F
 obtain⟨W,bm⟩:=zL ((w.alloc (.cells #[s.Aj,.slice H s.An J,.slice M s.Ac G] 30)).alloc (.cells #[ag,.float .f64 ah,ai,aj,.slice al am an] 118))
 refine Z47 ?_
 intro el na
 have a3:W.rangeAt w 0 [s.Aj,.slice H s.An J,.slice M s.Ac G]:=vT
 have ap:=Zaa (Aqd t _ W n ac yE (a9.below (el.mono D)))
 have a8:∀(X:zN) (out:List ByteArray) (a:zO) (c:Nat),Below w w X->X.rangeAt w 0 [s.Aj,.slice H s.An J,.slice M s.Ac G]->Bs X X 1 a (out.map fun x=>[Value.string x])->Sz [] out t.pre->out.length<=t.size->
   Calls prog 227 #[.slice a out c,.func (.func 229) #[] #[zK w]] X fun e w'=>e=.returned (.bool false)/\Below X X w':=by
  intro X out a c a0 a4 A O a1
  have h:=Ag5 229 #[zK w] (fun _ _=>rfl) a c (out.map fun x=>[Value.string x]) (fun _=>false) X X (Zab _) yJ A (fun j av Y a6=>by
   have aq:j<out:=xW;rw[Zbh];have U:=a0.trans (a6.mono a0.size);refine Aii s ab out[j] (ak _ ?_) _ _ Y n (Zag D U.size) (Aa a4 a6 (Bm a4 yF)) (A0.Ab.below a7 (U.mono D));rcases O _ (Zat aq)with h | ⟨y,hy,h1,h2⟩
   ·cases h
   simp only[S6,Zfb,Zez];exact⟨y,⟨hy,by simp[h1]⟩,h2⟩)
  rw[Zeq,any_false]at h
  exact h
 have ae:=Zaa a8
 have a2:=Zaa el
 have ao:=Zaa a3
 clear a8 a7 a9 F a3 el
 subst bm
 go_enter func189,ntmps189
 go_wp2_with fail
 refine ap.out.mono ?_
 rintro e aa ⟨out,a,c,rfl,A,O,a1,T⟩
 have c7:=a2.out.trans (T.mono a2.out.size)
 go_wp2_with fail
 refine(ae.out aa out a c c7 (Aa ao.out T yJ) A O a1).mono ?_
 exact Z14
theorem J5 {w:zN} {n:Nat} {A:zP} (h:Ch w n Dd A):∃F D,A=[.int .u8 0,.float .f64 0,.string ⟨#[]⟩,.int .i64 0,.slice F 0 D]:=by
 obtain⟨a,c,e⟩:=Ch.shape h;exact⟨a,c,e⟩
theorem Aqx (G:zO) (pl F:Nat) (J:pl<=16) (ch:zO) (cg:Nat) (A D:Nat) (W:zN) (n:Nat) (H:n<=W) (a1:W.rangeAt A 0 [.int .u8 1,zC,.slice G pl F,zJ,zD,zC,zE,.slice ch 0 cg]) (be:W.rangeAt D 0 [zA]):
  Calls prog 185 #[zK A,zK D] W fun e w'=>e=.returned (.bool false)/\Below W W w':=by
 exact Z2v
theorem Aqu (s:Ap) (J:s.An.length<=100) (Y:zO) (pl V:Nat) (T:zO) (O:Nat) (G A F:Nat) (D:zP) (W:zN) (n:Nat) (H:n<=W) (hy:W.rangeAt G 0 D) (M:Br W n s D) (a1:W.rangeAt A 0 [.int .u8 1,zC,.slice Y pl V,zJ,zD,zC,zE,.slice T 0 O]) (be:W.rangeAt F 0 [zA]):
  Calls prog 187 #[zK G,zK A,zK F] W fun e w'=>e=.returned (.bool false)/\Below W W w':=by
 obtain⟨a3,a6,rfl,ih,a4⟩:=M
 obtain⟨a2,a0,rfl,-⟩:=a4
 have ia:=Ok s.Aj s.An a3 ⟨#[]⟩ J W n H ih a2 s.Ac a0
 generalize(Fp s.An ⟨#[]⟩==some true)=q1 at ia
 generalize(Fp s.An ⟨#[]⟩).isSome=a5 at ia
 exact Z2z
theorem Aqw (H:zS) (G:zO) (pl F:Nat) (M:pl<=16) (ch:zO) (cg:Nat) (A D:Nat) (W:zN) (n:Nat) (J:n<=W) (a1:W.rangeAt A 0 [.int .u8 2,H,.slice G pl F,zJ,zD,zC,zE,.slice ch 0 cg]) (be:W.rangeAt D 0 [zA]):
  Calls prog 185 #[zK A,zK D] W fun e w'=>e=.returned (.bool false)/\Below W W w':=by
 exact Z2v
theorem Aqt (s:Ap) (O:s.An.length<=100) (A:zS) (a2:zO) (pl a0:Nat) (Y:zO) (V:Nat) (J:Fp s.An A=some false) (H D G:Nat) (F:zP) (W:zN) (n:Nat) (M:n<=W) (hy:W.rangeAt H 0 F) (T:Br W n s F) (a1:W.rangeAt D 0 [.int .u8 2,A,.slice a2 pl a0,zJ,zD,zC,zE,.slice Y 0 V]) (be:W.rangeAt G 0 [zA]):
  Calls prog 187 #[zK H,zK D,zK G] W fun e w'=>e=.returned (.bool false)/\Below W W w':=by
 obtain⟨a5,a7,rfl,ih,a6⟩:=T
 obtain⟨a4,a3,rfl,-⟩:=a6
 have ia:=Ok s.Aj s.An a5 A O W n M ih a4 s.Ac a3
 rw[J]at ia
 exact Z2z
theorem Aqv (a5:zS) (a3:zO) (a2:Nat) (t:Ex) (a0:t.size<=10000) (a4:F4 t) (D:UInt8) (F:Nat) (G:zS) (H:Int) (M:zO) (O T:Nat) (A J:Nat) (W:zN) (n:Nat) (V:n<=W) (a1:W.rangeAt A 0 [.int .u8 3,a5,.slice a3 0 a2,D,.float .f64 F,G,H,.slice M O T]) (be:W.rangeAt J 0 [zB]) (Y:Ch W n t [D,.float .f64 F,G,H,.slice M O T]):
  Calls prog 185 #[zK A,zK J] W fun e w'=>e=.returned (.bool false)/\Below W W w':=by
 have a6:=Zaa (Tf t _ W n a0 V Y a4)
 have U:=Bm a1 yF
 have i5:=Bm be yF
 refine Z0x ?_
 intro d0 d1 d2 d3 d4 d5 d6 d7
 simp only[Zac]at d0 d1 d2 d3 d4 d5 d6 d7
 have lS:=be 0 _ rfl
 simp only[Zac]at lS
 go_enter func185,ntmps185
 go_wp2_with fail
 refine(Hq _ _ _ _ yH yH).mono ?_
 rintro e a7 ⟨rfl,rfl⟩
 go_wp2_with fail
 refine(a6.out).mono ?_
 exact Z3H
theorem Aqs (s:Ap) (J:s.An.length<=100) (F:zS) (aj:zO) (ai:Nat) (t:Ex) (ae:t.size<=10000) (V:UInt8) (Y:Nat) (a0:zS) (a2:Int) (a4:zO) (a5 a6:Nat) (ab:Fp s.An F=some true) (al:L1 s t) (a9 T a3:Nat) (D:zP) (W:zN) (n:Nat) (A:n<=W) (hy:W.rangeAt a9 0 D) (M:Br W n s D) (a1:W.rangeAt T 0 [.int .u8 3,F,.slice aj 0 ai,V,.float .f64 Y,a0,a2,.slice a4 a5 a6]) (O:W.rangeAt a3 0 [zB]) (ac:Ch W n t [V,.float .f64 Y,a0,a2,.slice a4 a5 a6]):
  Calls prog 187 #[zK a9,zK T,zK a3] W fun e w'=>e=.returned (.bool false)/\Below W W w':=by
 have ag:=Zaa fun X (h:Below W W X)=>Vo s J t al ae D _ X n (Zag A h.size) (A0.Ab.below M (h.mono A)) (ac.below (h.mono A))
 obtain⟨ao,au,rfl,a7,ap⟩:=M
 obtain⟨am,ak,rfl,-⟩:=ap
 have G:=Ok s.Aj s.An ao F J W n A a7 am s.Ac ak
 rw[ab]at G
 have c3:=Zaa G
 obtain⟨aq,ar,rfl,-⟩:=a7
 have U:=Bm a1 yF
 have an:=Bm O yF
 have ah:=Bm hy yF
 clear G
 refine Z3Y ?_
 intro en bz bo
 simp only[Zac]at en bz bo
 have d1:=a1 1 _ rfl
 simp only[Zac]at d1
 go_enter func187,ntmps187
 go_wp2_with fail
 refine Z4l ?_
 intro a8 aa b7 c4 hg nu G1 bD yg
 have m0:=Aa O aa an 0 _ rfl
 simp only[Zac]at m0
 have H:=Aa hy aa ah
 have f0:=H 0 _ rfl
 have f1:=H 1 _ rfl
 have f2:=H 2 _ rfl
 simp only[Zac]at f0 f1 f2
 clear d1 en bz bo
 go_wp2_with fail
 refine(ag.out _ aa).mono ?_
 exact Z2J
end
section
open Tryz Go.RowKit Go.Shelf
theorem Uu (k g:Int) (H:(k==4)=false) (t:zS) (D:zO) (A F:Nat) (w:zN) (hp:w.rangeAt F 0 [.int .u8 k,t,g,zJ,zD,zC,zE,.slice D 0 A]):
  Calls prog 230 #[.agg #[.int .u8 k,t,g,zJ,zD,zC,zE,zH],zK F] w fun e w'=>e=.returned (.bool true)/\Below w w w':=by
 have U:=Bm hp yF
 have c0:=Af (w:=w) (.cells #[.int .u8 k,t,g,zJ,zD,zC,zE,zH] 124)
 have G:=Zaa fun X=>Wc D A X
 have J:(t.toList==t.toList)=true:=yF
 have d0:=hp 0 _ rfl
 have d1:=hp 1 _ rfl
 have d2:=hp 2 _ rfl
 have d3:=hp 3 _ rfl
 have d4:=hp 4 _ rfl
 have d5:=hp 5 _ rfl
 have d6:=hp 6 _ rfl
 have d7:=hp 7 _ rfl
 simp only[Zac]at d0 d1 d2 d3 d4 d5 d6 d7
 go_enter func230,ntmps230
 go_wp2_with fail
 refine(G.out _).mono ?_
 exact Z13
theorem Ajv (D:UInt8) (F:Nat) (G:zS) (H:Int) (J:zO) (M O A:Nat) (w:zN) (hp:w.rangeAt A 0 [.int .u8 4,zC,zE,D,.float .f64 F,G,H,.slice J M O]):
  Calls prog 230 #[.agg #[.int .u8 4,zC,zE,zJ,zD,zC,zE,zH],zK A] w fun e w'=>e=.returned (.bool true)/\Below w w w':=by
 have U:=Bm hp yF
 have d0:=hp 0 _ rfl
 have d1:=hp 1 _ rfl
 have d2:=hp 2 _ rfl
 simp only[Zac]at d0 d1 d2
 go_enter func230,ntmps230
 exact Z0N
theorem Zt (t:zS) (h1:(0:Int) <t.size) (h2:(t.size:Int)<=512) (D:zO) (A:Nat) (w:zN):
  Calls prog 194 #[.agg #[.int .u8 1,t,zE,zJ,zD,zC,zE,.slice D 0 A]] w fun e w'=>e=.returned (.bool true)/\Below w w w':=by
 have c0:=Af (w:=w) (.cells #[.int .u8 1,t,zE,zJ,zD,zC,zE,.slice D 0 A] 124)
 have df:=Ae w [.int .u8 1,t,zE,zJ,zD,zC,zE,.slice D 0 A] 124
 have c2:=Zaa fun(X:zN) (h:X.rangeAt w 0 [.int .u8 1,t,zE,zJ,zD,zC,zE,.slice D 0 A])=>Uu 1 0 yI t D A _ X h
 exact Z1H
theorem Zs (t:zS) (F:Hm t) (D:zO) (A:Nat) (w:zN):
  Calls prog 194 #[.agg #[.int .u8 2,t,zE,zJ,zD,zC,zE,.slice D 0 A]] w fun e w'=>e=.returned (.bool true)/\Below w w w':=by
 have c0:=Af (w:=w) (.cells #[.int .u8 2,t,zE,zJ,zD,zC,zE,.slice D 0 A] 124)
 have df:=Ae w [.int .u8 2,t,zE,zJ,zD,zC,zE,.slice D 0 A] 124
 have c2:=Zaa fun(X:zN) (h:X.rangeAt w 0 [.int .u8 2,t,zE,zJ,zD,zC,zE,.slice D 0 A])=>Uu 2 0 yI t D A _ X h
 have G:=Zaa fun X=>Jt t X F
 go_enter func194,ntmps194
 go_wp2_with fail
 refine(G.out _).mono ?_
 exact Z3G
theorem Zu (g:Int) (h1:0<=g) (h2:g<=9) (D:zO) (A:Nat) (w:zN):
  Calls prog 194 #[.agg #[.int .u8 3,zC,g,zJ,zD,zC,zE,.slice D 0 A]] w fun e w'=>e=.returned (.bool true)/\Below w w w':=by
 have c0:=Af (w:=w) (.cells #[.int .u8 3,zC,g,zJ,zD,zC,zE,.slice D 0 A] 124)
 have df:=Ae w [.int .u8 3,zC,g,zJ,zD,zC,zE,.slice D 0 A] 124
 have c2:=Zaa fun(X:zN) (h:X.rangeAt w 0 [.int .u8 3,zC,g,zJ,zD,zC,zE,.slice D 0 A])=>Uu 3 g yI ⟨#[]⟩ D A _ X h
 exact Z1H
theorem Xo (t:Ex) (U:t.size<=10000) (V:F4 t) (A:UInt8) (D:Nat) (F:zS) (G:Int) (H:zO) (J M:Nat) (w:zN) (n:Nat) (O:n<=w) (T:Ch w n t [A,.float .f64 D,F,G,.slice H J M]):
  Calls prog 194 #[.agg #[.int .u8 4,zC,zE,A,.float .f64 D,F,G,.slice H J M]] w fun e w'=>e=.returned (.bool true)/\Below w w w':=by
 have c0:=Af (w:=w) (.cells #[.int .u8 4,zC,zE,A,.float .f64 D,F,G,.slice H J M] 124)
 have df:=Ae w [.int .u8 4,zC,zE,A,.float .f64 D,F,G,.slice H J M] 124
 have c2:=Zaa fun(X:zN) (h:X.rangeAt w 0 [.int .u8 4,zC,zE,A,.float .f64 D,F,G,.slice H J M])=>Ajv A D F G H J M _ X h
 have W:=Zaa (Tf t _ _ n U (Zag O c0.size) (T.below (c0.mono O)) V)
 go_enter func194,ntmps194
 go_wp2_with fail
 refine(W.out).mono ?_
 exact Z3G
theorem Ss (s:Ap) (r:A7) (l:List Dl) (i:Nat) (p:Dl) (h:H9 s r l i p) (H:p.Bw.size<=10000) (cs:zP) (w:zN) (n:Nat) (G:n<=w) (O:L0 w n p cs):
  Calls prog 194 #[.agg cs.toArray] w fun e w'=>e=.returned (.bool true)/\Below w w w':=by
 obtain⟨kind,text,group,Bw⟩:=p
 obtain⟨es,rfl,J⟩:=O
 have F:Ch w n Bw es:=J
 rcases h.kinds with⟨rfl,h1,h2,rfl,rfl⟩ | ⟨rfl,h1,rfl,rfl,-⟩ | ⟨rfl,rfl,h1,h2,-,rfl⟩ | ⟨rfl,rfl,rfl,h1,-⟩
 ·obtain⟨D,A,rfl⟩:=J5 F
  exact Zt text (by simp only at h1;omega) (by simp only at h2;omega) D A w
 ·obtain⟨D,A,rfl⟩:=J5 F
  exact Zs text h1 D A w
 ·obtain⟨D,A,rfl⟩:=J5 F
  exact Zu group h1 h2 D A w
 obtain⟨M,T,U,V,W,Y,a0,rfl⟩:=Ch.G2 F
 exact Xo Bw H h1 M T U V W Y a0 w n G F
end
section
open Tryz Go.RowKit Go.Shelf
theorem Aff (D b1 b2:Nat) (W:zN) (G:W.rangeAt D 0 [zA]):
  Calls prog 190 #[zK D,zK b1,zK b2] W fun e w'=>e=.returned (.bool false)/\Below W W w':=by
 go_enter func190,ntmps190
 go_wp2_with fail
 have A:(W.drewN 1).rangeAt D 0 [zA]:=Ag G yN
 refine C1 [(0,.inl (some 0)),(1,.inl none),(2,.inl none),(3,.inl (some 0)),(5,.inl (some 0)),(4,.inr [0]),(6,.inr [0]),(7,.inl none),(8,.inl none),(9,.inl none)]
  (fun _ X=>X.rangeAt D 0 [zA]) yG yG (fun _=>A) ?_
 refine Z4Z ?_
 intro c8
 generalize W.drewN 1=H at A c8|-
 refine Av (.bool false) yI (fun w' F=>?_) (fun K J=>?_)
 ·have aq:=F 0 _ rfl
  exact Z1P
 refine Z42 ?_
 clear J K
 refine Z2m ?_
 refine Z2m ?_
 refine Z4H ?_
 refine Ci (fun K J=>?_) (Bg A)
 go_wp2_with fail
 refine J _ _ (Bg A) ?_
 clear J K
 refine Ci (fun K J=>?_) (Bg A)
 go_wp2_with fail
 refine J _ _ (Bg A) ?_
 clear J K
 refine Z00 ?_
 refine C7 ?_
 go_wp2_with fail
 go_ret
 exact⟨rfl,c8⟩
theorem Amx (r:A7) (aD:r.Bu.size<=10000) (t:Ex) (az:t.size<=10000) (hm:Gi t.pre<=Ei r) (ag:zS) (ad:zO) (ac:Nat) (G:UInt8) (H:Nat) (M:zS) (T:Int) (U:zO) (V Y:Nat) (a4 a2 a5:Nat) (cs:zP) (W:zN) (n:Nat) (a0:n<=W)
  (ap:W.rangeAt a4 0 [zB]) (al:W.rangeAt a2 0 [.int .u8 3,ag,.slice ad 0 ac,G,.float .f64 H,M,T,.slice U V Y]) (am:W.rangeAt a5 0 cs) (an:Ch W n t [G,.float .f64 H,M,T,.slice U V Y]) (ar:Fo W n r cs):
  Calls prog 190 #[zK a4,zK a2,zK a5] W fun e w'=>e=.returned (.bool false)/\Below W W w':=by
 have aw:=ar
 obtain⟨z0,a6,z2,z3,z4,z5,ab,a7,a8,z9,v,rfl,-,a9,aa,rfl,-⟩:=Bj.open ar
 go_enter func190,ntmps190
 go_wp2_with fail
 have D:(W.drewN 1).rangeAt a4 0 [zB]/\(W.drewN 1).rangeAt a2 0 [.int .u8 3,ag,.slice ad 0 ac,G,.float .f64 H,M,T,.slice U V Y]/\(W.drewN 1).rangeAt a5 0 [r.kind,r.Bh,r.Bp,z0,a6,z2,z3,z4,z5,ab,.slice a7 a8 z9,r.text,r.Az,.slice a9 r.Aw aa,r.A3,r.Bl]:=⟨Ag ap yN,Ag al yN,Ag am yN⟩
 have q1:=Bm ap yF
 have aQ:=Bm al yF
 have aS:=Bm am yF
 refine C1 [(0,.inl (some 0)),(1,.inl none),(2,.inl none),(3,.inl (some 0)),(5,.inl (some 0)),(4,.inr [0]),(6,.inr [0]),(7,.inl none),(8,.inl none),(9,.inl none)]
  (fun _ X=>X.rangeAt a4 0 [zB]/\X.rangeAt a2 0 [.int .u8 3,ag,.slice ad 0 ac,G,.float .f64 H,M,T,.slice U V Y]/\X.rangeAt a5 0 [r.kind,r.Bh,r.Bp,z0,a6,z2,z3,z4,z5,ab,.slice a7 a8 z9,r.text,r.Az,.slice a9 r.Aw aa,r.A3,r.Bl]) yG yG (fun _=>D) ?_
 refine Z4Z ?_
 intro c8
 generalize W.drewN 1=ax at D c8|-
 have av:=Zaa (Ajg t _ ax n az (Zag a0 c8.size) (an.below (c8.mono a0)))
 have au:=Zaa fun X (h:Below W W X)=>Oq r _ X n aD (Zag a0 h.size) (Bj.Ab.below aw (h.mono a0))
 have ao:decide (Ei r<Gi t.pre)=false:=Zhs yE
 have ah:=Zaa ao
 generalize Gi t.pre=aP at av ah
 generalize Ei r=aR at au ah
 clear aw an ao hm
 refine Av (.bool true) yI (fun w' A=>?_) (fun K J=>?_)
 ·have aq:=A.1 0 _ rfl
  exact Z1P
 refine Z42 ?_
 clear J K
 refine Z2m ?_
 refine Z2m ?_
 refine Av (.agg #[G,.float .f64 H,M,T,.slice U V Y]) yI (fun w' A=>?_) (fun K J=>?_)
 ·have ae:=A.2.1 3 _ rfl
  have af:=A.2.1 4 _ rfl;have ai:=A.2.1 5 _ rfl;have ak:=A.2.1 6 _ rfl;have aj:=A.2.1 7 _ rfl;simp only[Zac]at ae af ai ak aj;go_simp
 refine Z42 ?_
 clear J K
 refine Av (.agg #[r.kind,r.Bh,r.Bp,z0,a6,z2,z3,z4,z5,ab,.slice a7 a8 z9,r.text,r.Az,.slice a9 r.Aw aa,r.A3,r.Bl]) yI (fun w' A=>?_) (fun K J=>?_)
 ·have aq:=A.2.2 0 _ rfl
  have ay:=A.2.2 1 _ rfl;have aA:=A.2.2 2 _ rfl;have ae:=A.2.2 3 _ rfl;have af:=A.2.2 4 _ rfl;have ai:=A.2.2 5 _ rfl;have ak:=A.2.2 6 _ rfl;have aj:=A.2.2 7 _ rfl;have aE:=A.2.2 8 _ rfl;have aF:=A.2.2 9 _ rfl;have aH:=A.2.2 10 _ rfl;have aI:=A.2.2 11 _ rfl;have aJ:=A.2.2 12 _ rfl;have aG:=A.2.2 13 _ rfl;have aK:=A.2.2 14 _ rfl;have aL:=A.2.2 15 _ rfl;simp only[Zac]at aq ay aA ae af ai ak aj aE aF aH aI aJ aG aK aL;go_simp
 refine Z42 ?_
 clear J K
 refine Ci (fun K J=>?_) (Bg D)
 go_wp2_with fail
 refine av.out.mono ?_
 rintro e aM ⟨rfl,a1⟩
 go_wp2_with fail
 have F:=c8.trans (a1.mono c8.size)
 have O:=And.intro (Aa D.1 a1 wX) (And.intro (Aa D.2.1 a1 wX) (Aa D.2.2 a1 wX))
 refine J _ _ (Bg O) ?_
 clear J K
 refine Ci (fun K J=>?_) (Bg O)
 go_wp2_with fail
 refine(au.out _ F).mono ?_
 rintro e aN ⟨rfl,a3⟩
 go_wp2_with fail
 have aB:=F.trans (a3.mono F.size)
 have aC:=And.intro (Aa O.1 a3 (by have:=F.size;omega)) (And.intro (Aa O.2.1 a3 (by have:=F.size;omega)) (Aa O.2.2 a3 (by have:=F.size;omega)))
 refine J _ _ (Bg aC) ?_
 clear J K
 have aO:=ah.out
 refine Z00 ?_
 refine C7 ?_
 go_wp2_with fail
 go_ret
 exact⟨rfl,aB⟩
theorem Amw (s:Ap) (O:s.An.length<=100) (r:A7) (V:r.Bu.size<=10000) (G:zO) (pl F:Nat) (T:pl<=16) (D:zO) (A:Nat) (M cs:zP) (w:zN) (n:Nat) (ah:n<=w) (H:Br w n s M) (J:Fo w n r cs):
  Calls prog 148 #[.agg M.toArray,.agg cs.toArray,.agg #[.int .u8 1,zC,.slice G pl F,zJ,zD,zC,zE,.slice D 0 A]] w fun e w'=>e=.returned (.int .i64 0)/\Below w w w':=by
 have i0:=H
 have qe:=J
 obtain⟨U,Y,rfl,⟨ei,ej,rfl,-⟩,hd,e9,rfl,-⟩:=H
 obtain⟨z0,b9,z2,z3,z4,z5,cc,bg,bk,z9,v,rfl,-,bn,br,rfl,-⟩:=Bj.open J
 refine Z3u ?_
 intro a8 ba ad dj
 obtain⟨ag,cr⟩:=zL (ad.alloc (.cells #[.int .u8 1,zC,.slice G pl F,zJ,zD,zC,zE,.slice D 0 A] 120))
 obtain⟨W,bm⟩:=zL (ag.alloc (.cells #[zA] 4))
 refine Z2p ?_
 intro X3 X4 Xa eN b1 b2 hl Kd K1 Jx el c4 dt
 have du:W.rangeAt (w+2) 0 [.int .u8 1,zC,.slice G pl F,zJ,zD,zC,zE,.slice D 0 A]:=Aa uS Kd yE
 have hg:W.rangeAt (w+3) 0 [zA]:=sI
 have hr:=Zaa (Jl [⟨307,185,#[zK (w+2),zK (w+3)]⟩,⟨308,187,#[zK w,zK (w+2),zK (w+3)]⟩,⟨309,190,#[zK (w+3),zK (w+2),zK (w+1)]⟩] W (w+4) 3 eN.symm rfl yF
  (by intro y hy;simp only[Zbc,Zbe,Zic]at hy;rcases hy with rfl | rfl | rfl<;>exact fun _ _=>rfl)
  (by
   intro y hy X az;have mc:=el.trans (az.mono yE);have:=mc.size;refine Z1C ?_;intro bd6 bd7 o7 kc e7 iu;simp only[Zbc,Zbe,Zic]at hy;rcases hy with rfl | rfl | rfl
   ·exact Aqx G pl F T D A _ _ X n yE o7 kc
   ·exact Aqu s O G pl F D A _ _ _ _ X n yE bd6 e7 o7 kc
   exact Aff _ _ _ X kc))
 exact Z4g
theorem Amv (s:Ap) (U:s.An.length<=100) (r:A7) (a0:r.Bu.size<=10000) (A:zS) (H:zO) (pl G:Nat) (V:pl<=16) (F:zO) (D:Nat) (T:Fp s.An A=some false) (O cs:zP) (w:zN) (n:Nat) (ah:n<=w) (J:Br w n s O) (M:Fo w n r cs):
  Calls prog 148 #[.agg O.toArray,.agg cs.toArray,.agg #[.int .u8 2,A,.slice H pl G,zJ,zD,zC,zE,.slice F 0 D]] w fun e w'=>e=.returned (.int .i64 0)/\Below w w w':=by
 have i0:=J
 have qe:=M
 obtain⟨Y,a1,rfl,⟨ei,ej,rfl,-⟩,hd,e9,rfl,-⟩:=J
 obtain⟨z0,b9,z2,z3,z4,z5,cc,bg,bk,z9,v,rfl,-,bn,br,rfl,-⟩:=Bj.open M
 refine Z3u ?_
 intro a8 ba ad dj
 obtain⟨ag,cr⟩:=zL (ad.alloc (.cells #[.int .u8 2,A,.slice H pl G,zJ,zD,zC,zE,.slice F 0 D] 120))
 obtain⟨W,bm⟩:=zL (ag.alloc (.cells #[zA] 4))
 refine Z2p ?_
 intro X3 X4 Xa eN b1 b2 hl Kd K1 Jx el c4 dt
 have du:W.rangeAt (w+2) 0 [.int .u8 2,A,.slice H pl G,zJ,zD,zC,zE,.slice F 0 D]:=Aa uS Kd yE
 have hg:W.rangeAt (w+3) 0 [zA]:=sI
 have hr:=Zaa (Jl [⟨307,185,#[zK (w+2),zK (w+3)]⟩,⟨308,187,#[zK w,zK (w+2),zK (w+3)]⟩,⟨309,190,#[zK (w+3),zK (w+2),zK (w+1)]⟩] W (w+4) 3 eN.symm rfl yF
  (by intro y hy;simp only[Zbc,Zbe,Zic]at hy;rcases hy with rfl | rfl | rfl<;>exact fun _ _=>rfl)
  (by
   intro y hy X az;have mc:=el.trans (az.mono yE);have:=mc.size;refine Z1C ?_;intro bd6 bd7 o7 kc e7 iu;simp only[Zbc,Zbe,Zic]at hy;rcases hy with rfl | rfl | rfl
   ·exact Aqw A H pl G V F D _ _ X n yE o7 kc
   ·exact Aqt s U A H pl G F D T _ _ _ _ X n yE bd6 e7 o7 kc
   exact Aff _ _ _ X kc))
 exact Z4g
theorem Amu (s:Ap) (a5:s.An.length<=100) (r:A7) (a9:r.Bu.size<=10000) (H:zS) (U:zO) (T:Nat) (t:Ex) (V:t.size<=10000) (a6:F4 t) (hm:Gi t.pre<=Ei r) (A:UInt8) (D:Nat) (F:zS) (G:Int) (J:zO) (M O:Nat) (a4:Fp s.An H=some true) (a7:L1 s t) (a3 cs:zP) (w:zN) (n:Nat) (ah:n<=w) (a0:Br w n s a3) (a2:Fo w n r cs) (a1:Ch w n t [A,.float .f64 D,F,G,.slice J M O]):
  Calls prog 148 #[.agg a3.toArray,.agg cs.toArray,.agg #[.int .u8 3,H,.slice U 0 T,A,.float .f64 D,F,G,.slice J M O]] w fun e w'=>e=.returned (.int .i64 0)/\Below w w w':=by
 have i0:=a0
 have qe:=a2
 obtain⟨ab,ac,rfl,⟨ei,ej,rfl,-⟩,hd,e9,rfl,-⟩:=a0
 obtain⟨z0,b9,z2,z3,z4,z5,cc,bg,bk,z9,v,rfl,-,bn,br,rfl,-⟩:=Bj.open a2
 refine Z3u ?_
 intro a8 ba ad dj
 obtain⟨ag,cr⟩:=zL (ad.alloc (.cells #[.int .u8 3,H,.slice U 0 T,A,.float .f64 D,F,G,.slice J M O] 120))
 obtain⟨W,bm⟩:=zL (ag.alloc (.cells #[zB] 4))
 refine Z2p ?_
 intro X3 X4 Xa eN b1 b2 hl Kd K1 Jx el c4 dt
 have du:W.rangeAt (w+2) 0 [.int .u8 3,H,.slice U 0 T,A,.float .f64 D,F,G,.slice J M O]:=Aa uS Kd yE
 have hg:W.rangeAt (w+3) 0 [zB]:=sI
 have hr:=Zaa (Jl [⟨307,185,#[zK (w+2),zK (w+3)]⟩,⟨308,187,#[zK w,zK (w+2),zK (w+3)]⟩,⟨309,190,#[zK (w+3),zK (w+2),zK (w+1)]⟩] W (w+4) 3 eN.symm rfl yF
  (by intro y hy;simp only[Zbc,Zbe,Zic]at hy;rcases hy with rfl | rfl | rfl<;>exact fun _ _=>rfl)
  (by
   intro y hy X az;have mc:=el.trans (az.mono yE);have:=mc.size;refine Z1C ?_;intro bd6 bd7 o7 kc e7 iu;have Y:=a1.below (mc.mono ah);simp only[Zbc,Zbe,Zic]at hy;rcases hy with rfl | rfl | rfl
   ·exact Aqv H U T t V a6 A D F G J M O _ _ X n yE o7 kc Y
   ·exact Aqs s a5 H U T t V A D F G J M O a4 a7 _ _ _ _ X n yE bd6 e7 o7 kc Y
   exact Amx r a9 t V hm H U T A D F G J M O _ _ _ _ X n yE kc o7 bd7 Y iu))
 have c2:=Zaa el
 clear c4 dt du hg b1 b2 hl Kd K1 Jx X3 X4 Xa eN el i0 qe a1
 subst bm cr dj ba
 go_enter func148,ntmps148
 exact Z0b
theorem Aj2 (s:Ap) (M:s.An.length<=100) (r:A7) (W:r.Bu.size<=10000) (a:Dv) (h:Tj s r a) (a2:a.Bw.size<=10000) (D cs Y:zP) (w:zN) (n:Nat) (J:n<=w) (O:Br w n s D) (T:Fo w n r cs) (hA:Aht w n a Y):
  Calls prog 148 #[.agg D.toArray,.agg cs.toArray,.agg Y.toArray] w fun e w'=>e=.returned (.int .i64 0)/\Below w w w':=by
 obtain⟨kind,name,Ay,Bw⟩:=a
 rcases h.kind with rfl | rfl | rfl
 ·obtain⟨v,es,rfl,F,A⟩:=hA
  obtain⟨H,G,rfl,-⟩:=F;have ac:name=⟨#[]⟩:=h.send rfl;have hex:Bw=Dd:=h.none yF;subst ac hex;obtain⟨V,U,rfl⟩:=J5 A;exact Amw s M r W H Ay G h.Fm V U D cs w n J O T
 ·obtain⟨v,es,rfl,F,A⟩:=hA
  obtain⟨H,G,rfl,-⟩:=F;have hex:Bw=Dd:=h.none yF;subst hex;obtain⟨V,U,rfl⟩:=J5 A;exact Amv s M r W name H Ay G h.Fm V U (h.set rfl) D cs w n J O T
 obtain⟨v,es,rfl,F,A⟩:=hA
 obtain⟨hp,a4,a8,hm⟩:=h.bare rfl
 have a1:Ay=[]:=hp
 subst a1
 obtain⟨H,G,rfl,-⟩:=F
 have a0:Ch w n Bw es:=A
 obtain⟨a3,a5,a6,a7,a9,aa,ab,rfl⟩:=Ch.G2 a0
 exact Amu s M r W name H G Bw a2 a4 hm a3 a5 a6 a7 a9 aa ab (h.Apw rfl) a8 D cs w n J O T a0
end
end Go.Proofs.YtafmoofknjncpaaGreatDoor
