/- A part of the proof that ModelWrong holds: its theorems stand as they are typed. -/
import Derived.Test.YtafmoofknjncpaaGreatDoorQg
import Derived.Test.YtafmoofknjncpaaGreatDoorQj
set_option linter.all false
set_option maxRecDepth 100000
set_option maxHeartbeats 8000000
namespace Go.Proofs.YtafmoofknjncpaaGreatDoor
section
open Tryz Go.RowKit Go.Shelf
structure Pg (w:zN) (m:Nat) (cs:zP) (x y:Nat):Prop where
 clean:∀X,Below m w X->Calls prog 169 #[.agg cs.toArray] X fun e cn=>e=.returned (.bool true)/\Below X X cn
 val:∀X mj js mq k,Below m w X->m<=k->k<=X.heap.size->S4 X k x mj js mq->(∃a n c,mq=.slice a n c)->Calls prog 223 #[.agg cs.toArray,.agg #[mj,js,mq]] X fun e cn=>e=.returned (.tuple #[.float .f64 y,zE])/\Below X X cn
 small:y<2^64
 G2:∃(dg:Int) (dm:Nat) (cd:zS) (et:Int) (a:zO) (l c:Nat),cs=[.int .u8 dg,.float .f64 dm,.string cd,.int .i64 et,.slice a l c]
theorem Pg.below {w w':zN} {m x y:Nat} {cs:zP} (h:Pg w m cs x y) (g:Below m w w'):Pg w' m cs x y:=
 ⟨fun X A=>h.clean X (g.trans A),fun X F D G k A=>h.val X F D G k (g.trans A),h.small,h.G2⟩
theorem Aea (w:zN) (m k x y:Nat) (cs:zP) (h:Pg w m cs x y) (a3 a2 H:Value) (O:m<=k) (hm:k<=w) (G:S4 w k x a3 a2 H) (V:∃a n c,H=.slice a n c):
  Calls prog 170 #[.agg cs.toArray,.agg #[a3,a2,H]] w fun e w'=>e=.returned (.tuple #[.float .f64 y,zE])/\Below w w w':=by
 obtain⟨ag,af,rfl,-⟩:=G.names.shape
 obtain⟨an,am,rfl,-⟩:=G.Aab.shape
 have al:=Zaa fun(X:zN) (D:Below k w X)=>h.val X _ _ H k (D.mono O) O (Zag hm D.size) (G.below D) V
 have aa:=Zaa fun(X:zN) (D:Below m w X)=>h.clean X D
 obtain⟨ap,ak,ao,rfl⟩:=V
 obtain⟨ad,ae,ab,ah,ai,a6,aj,rfl⟩:=h.G2
 obtain⟨a7,ar,A,a5,J,ac⟩:=Fk w [.int .u8 ad,.float .f64 ae,ab,ah,.slice ai a6 aj] [.slice ag 1 af,.slice an 1 am,.slice ap ak ao] 118 285
 have W:=A.cell (j:=0) rfl
 have Y:=A.cell (j:=1) rfl
 have a0:=A.cell (j:=2) rfl
 have a1:=A.cell (j:=3) rfl
 have a4:=A.cell (j:=4) rfl
 clear h G ac
 go_enter func170,ntmps170
 go_wp2_with fail
 refine(aa.out a7 (J.mono (Zag O hm))).mono ?_
 rintro e a8 ⟨rfl,M⟩
 clear W Y a0 a1 a4
 have F:=A.below M A.lt
 have U:=a5.below M a5.lt
 have T:=J.trans (M.mono J.size)
 have W:=F.cell (j:=0) rfl
 have Y:=F.cell (j:=1) rfl
 have a0:=F.cell (j:=2) rfl
 have a1:=F.cell (j:=3) rfl
 have a4:=F.cell (j:=4) rfl
 have au:=U.cell (j:=0) rfl
 have av:=U.cell (j:=1) rfl
 have aw:=U.cell (j:=2) rfl
 go_wp2_with fail
 refine(al.out a8 (T.mono hm)).mono ?_
 rintro e aq ⟨rfl,a9⟩
 go_wp2_with fail
 go_ret2
 exact⟨rfl,T.trans (a9.mono T.size)⟩
theorem Aa6 (w:zN) (m H lb a8 x y:Nat) (cs:zP) (hm:m<=w) (F:G5 w H lb a8 x) (h:Pg w m cs x y) (Bv:List (List Value)) (a1:zO) (ag:Nat) (hlen:Bv.length<=100) (ac:Bs w w 1 a1 Bv) (ai:a1=none->Bv=[]) (h1:∀u∈Bv.flatten,u.oneCell'=true) (ak:∀u∈Bv,u.length=1):
  Calls prog 139 #[.agg cs.toArray,zK H,.slice a1 Bv ag] w fun e w'=>e=.returned (.tuple #[.float .f64 (B7 y),zE])/\Below w w w':=by
 have aN:=(show H<w from by obtain⟨_,_,_,U,_⟩:=F.box;exact U.lt)
 have aL:lb<w:=(by obtain⟨_,_,_,_,au⟩:=F.box;exact(au.lt lb rfl).2)
 have aM:a8<w:=(by obtain⟨_,_,hm⟩:=F.map;exact(Zbx.1 hm).1)
 have aG:=Zaa fun(X:zN) (A:Below w w X)=>Aft X H lb a8 x (F.C4 (A8.By (P:=fun b=>b<w) A (fun _ h=>h)) aN aL aM) Bv a1 ag hlen ((ac.below A (Zab _)).mono A.size) ai h1 ak
 have av:=Zaa fun(X:zN) (A:Below m w X)=>h.clean X A
 have aF:=Zaa fun(X:zN) (A:Below m w X) (k:Nat) (a4 a2 aj:Value)=>Aea X m k x y cs (h.below A) a4 a2 aj
 have aI:=Zaa h.small
 obtain⟨V,Y,M,a0,T,a5,O,rfl⟩:=h.G2
 obtain⟨am,aO,D,a7,ay⟩:=Bx w [.int .u8 V,.float .f64 Y,M,a0,.slice T a5 O] 118
 have aw:=D.cell (j:=0) rfl
 have az:=D.cell (j:=1) rfl
 have aA:=D.cell (j:=2) rfl
 have aB:=D.cell (j:=3) rfl
 have aH:=D.cell (j:=4) rfl
 clear h ay F ac h1 ak ai
 go_enter func139,ntmps139
 go_wp2_with fail
 refine(av.out am (a7.mono hm)).mono ?_
 rintro e an ⟨rfl,ad⟩
 clear aw az aA aB aH
 have af:=D.below ad D.lt
 have ah:=a7.trans (ad.mono a7.size)
 go_upto_region 3 with fail
 refine Ce [(0,.inl (some 0)),(1,.inl none),(2,.inl none),(3,.inr ([],[0])),(4,.inr ([],[])),(5,.inl none),(6,.inl none),(7,.inl none),(8,.inl none),(9,.inl none)]
  (fun _ X=>Ar X w 118 [.int .u8 V,.float .f64 Y,M,a0,.slice T a5 O]) [0] yG yG (fun _ _=>af.drewN 1) ?_
 refine Z3s ?_
 have ab:=af.drewN 1
 have a3:=Bk ah 1 ah.size
 generalize an.drewN 1=ao at ab a3|-
 refine D9 (.agg [.int .u8 V,.float .f64 Y,.string M,.int .i64 a0,.slice T a5 O].toArray) rfl (fun W ar=>B6 118 _ rfl w.heap.size 0 rfl [.int .u8 V,.float .f64 Y,M,a0,.slice T a5 O] ar.range yG yG) ?_
 refine Z03 ?_
 refine A1 rfl (fun K J=>?_)
 go_wp2_with fail
 refine(aG.out ao a3).mono ?_
 rintro e G ⟨a4,a2,aj,rfl,aa,a9,aD,ae⟩
 obtain⟨aK,aJ,rfl,-⟩:=aD.shape
 have a6:=a3.trans (ae.mono a3.size)
 have aE:=ab.below ae ab.lt
 have aq:S4 G G x a4 a2 (.slice aK Bv aJ):=⟨⟨Du aa.1 (Zap _),aa.2⟩,⟨Du a9.1 (Zap _),a9.2⟩,fun k al=>al.elim (fun h=>(aa.lt k h).2) (fun h=>(a9.lt k h).2)⟩
 go_wp2_with fail
 refine J _ _ yF (fun _ _ _=>aE) ?_
 clear J K
 refine A1 rfl (fun K J=>?_)
 go_wp2_with fail
 refine(aF.out G (a6.mono hm) G a4 a2 _ (Zag hm a6.size) (Zab _) aq ⟨_,_,_,rfl⟩).mono ?_
 rintro e ap ⟨rfl,ax⟩
 have aC:=a6.trans (ax.mono a6.size)
 go_wp2_with fail
 refine Z4v ?_
 clear J K
 refine Z03 ?_
 refine Z4K ?_
 refine B1 ?_
 go_wp2_with fail
 refine(Pd y ap aI.out).mono ?_
 rintro e w' ⟨rfl,hw⟩
 subst w'
 go_wp2_with fail
 go_ret2
 exact⟨rfl,aC⟩
end
section
open Tryz Go.RowKit Go.Shelf
theorem Ahy (s:Ap) (r:A7) (l:List Dl) (ab:∀i p,l[i]? =some p->H9 s r l i p/\p.Bw.size<=10000) (hlen:l.length<=16) (v:Value) (w:zN) (n:Nat) (G:n<=w) (ar:Al Bz 8 w (fun b=>b<n) l v):
  Calls prog 220 #[v] w fun e w'=>e=.returned (.bool true)/\Below w w w':=by
 obtain⟨a,c,rfl,aG,an⟩:=ar
 have aK:¬(16:Int) <l.length:=yE
 go_enter func220,ntmps220
 go_wp2_with fail
 go_loopw [10] (fun V wr=>∃k:Nat,k<=l/\V=.int .i64 k/\Below w w wr) (fun V _=>l.length - (intOf V).toNat)
 case atStart=>exact⟨0,Zap _,rfl,Zai _ _⟩
 case round=>
  obtain⟨k,aE,rfl,U⟩:=hrel;by_cases H:k<l
  ·have aN:(k:Int) <l.length:=by omega
   rcases an with h | ⟨aB,ak,rfl,a4,W⟩
   ·rw[h]at H;simp at H
   have a2:n<=wr:=Zag G U.size;obtain⟨cs,Y,ae⟩:=W k H;have A:=Aa Y (U.mono G) a4;have a9:=Bz.Ab.below ae (U.mono G);obtain⟨M,al⟩:=ab k _ (Zam H);have a1:∀j (h:j<l.length),j+1=k->¬(l[k].kind=1/\l[j].kind=1):=fun j h e=>M.apart j _ e (Zam h)
   have a8:0<k->∃D,wr.rangeAt aB (ak+(k - 1)*8) D/\∃es,D=[.int .u8 (l[k - 1]'yE).kind.toNat,.string (l[k - 1]'yE).text,.int .i64 (l[k - 1]'yE).group]++es:=fun h=>by
    obtain⟨D,h1,es,h2,-⟩:=W (k - 1) yE;exact⟨D,Aa h1 (U.mono G) a4,es,h2⟩
   have a6:=Zaa fun(X:zN) (a0:Below wr wr X)=>Ss s r l k _ M al cs X n (Zag a2 a0.size) (Bz.Ab.below a9 (a0.mono a2))
   obtain⟨es,rfl,aa⟩:=a9;obtain⟨z0,ag,z2,z3,ai,aj,z9,rfl⟩:=Ch.G2 aa;have aC:=Zaa a1;have ao:=Zaa a8;generalize aJ:l[k]=p at*
   obtain⟨J,ax,aD,ex⟩:=p;simp only[Zas,Zau]at A a6|-;have d0:=A 0 _ rfl;have d1:=A 1 _ rfl;have d2:=A 2 _ rfl;have d3:=A 3 _ rfl;have d4:=A 4 _ rfl;have d5:=A 5 _ rfl;have d6:=A 6 _ rfl;have d7:=A 7 _ rfl;simp only[Zaf]at d0;obtain⟨af,ah,e3,F,au⟩:=Bx wr [J,ax,aD,z0,.float .f64 ag,z2,z3,.slice ai aj z9] 124;refine Z3P ?_;intro aq bh cq ed;have aw:=e3.cell (j:=4) rfl;have ay:=e3.cell (j:=5) rfl;have aA:=e3.cell (j:=6) rfl;have az:=e3.cell (j:=7) rfl;clear au Y A ae W ab a1 a8 M aa;have a3:=U.trans (F.mono U.size);go_upto_region 6 with fail
   clear d0 d1 d2 d3 d4 d5 d6 d7 ah;go_wp2_with fail
   refine(a6.out af F).mono ?_;rintro e aF ⟨rfl,O⟩;have av:=e3.below O e3.lt;have T:=a3.trans (O.mono a3.size);clear aq bh cq ed aw ay aA az;have aq:=av.cell (j:=0) rfl;rcases Zfz k with rfl | ap
   ·have h0:decide ((0:Int) <0)=false:=rfl
    go_wp2;exact⟨⟨1,yE,yK,T⟩,xJ⟩
   have h0:(0:Int) <k:=by omega
   obtain⟨D,ac,es,rfl⟩:=ao.out ap;have a7:=aC.out (k - 1) yE yE;generalize l[k - 1]=q at ac a7;obtain⟨a5,aP,aL,eq⟩:=q;have d0:=Aa ac (F.trans (O.mono F.size)) yE 0 _ rfl;simp only[Zaf]at d0;have aH:((k:Int) - 1).toNat=k - 1:=yE;have aO:(0:Int)<=(k:Int) - 1:=yE;have aM:(k:Int) - 1<l.length:=yE;by_cases ad:J=1
   ·subst ad
    have aI:((a5.toNat:Int)==1)=false:=by
     simp only[Zaz];intro h;exact a7 ⟨rfl,Zha.1 (by simpa using(by omega:a5.toNat=1))⟩
    have am:(((1:UInt8).toNat:Int)==1)=true:=rfl;go_wp2;exact⟨⟨k+1,yE,yK,T⟩,xJ⟩
   have am:((J.toNat:Int)==1)=false:=by
    simp only[Zaz];intro h;exact ad (Zha.1 (by simpa using(by omega:J.toNat=1)))
   go_wp2;exact⟨⟨k+1,yE,yK,T⟩,xJ⟩
  obtain rfl:k=l:=by omega
  refine Z1q ?_;intro fe;exact Z3a
end
section
open Tryz Go.RowKit Go.Shelf
def Wo (w:zN) (n A:Nat) (F:Value) (Bv:List ByteArray) (p:Dl) (t:zS):Prop:=
 (p.kind=1/\t=p.text)\/(p.kind=3/\∃g:Nat,p.group=g/\Bv[g]? =some t)\/
 (p.kind=4/\t=⟨#[48]⟩/\∀es X,Ch X n p.Bw es->Below n w X->n<=X.heap.size->Calls prog 139 #[.agg es.toArray,zK A,F] X fun e D=>e=.returned (.tuple #[zD,zE])/\Below X X D)
def Nw (n s:Nat) (k:Nat):Prop:=k<n\/s<=k/\k<s+3
theorem Ah2 (l:List Dl) (F Bv:List ByteArray) (aO:F.length=l) (hlen:l.length<=16) (a:zO) (c:Nat) (a9:zO) (ag ae n s:Nat) (w:zN) (aC:n<=s) (aG:s+3<=w) (ax:Al Bz 8 w (fun b=>b<n) l (.slice a l c))
  (hC:Bs w n 1 a9 (Bv.map fun x=>[.string x])) (a7:∀k (h:k<l.length),Wo w n ae (.slice a9 Bv ag) Bv l[k] (F[k]'yE))
  (ai:Ar w s 115 [.slice a l c]) (lq:Ar w (s+1) 99 [zK ae]) (lr:Ar w (s+2) 85 [.slice a9 Bv ag]):
  Iter prog 246 #[zK s,zK (s+1),zK (s+2)] l (fun k args _=>∃t,F[k]? =some t/\args=#[.string t,.int .i64 0]) (A8 (Nw n s)) w:=by
 intro m aN di aR W af aP jw aT aA h0
 have bn1:∀k,Nw n s k->k<w.heap.size:=fun k a7=>by rcases a7 with h | h<;>omega
 have ar:A8 (Nw n s) w W:=A8.By af bn1
 have ay:=(ai.below af ai.lt).cell (j:=0) rfl
 refine Zhp func246 rfl trivial ?_ rfl
 simp only[ntmps246,Zfk,Zao,Zav,Nat.reduceAdd,Nat.reduceSub,Zcb,Zcc,Zff,Zdl,Zau,Zas]
 gi_wp2_with fail
 clear ay
 gi_loopw [12] (fun v wr=>∃k:Nat,k<=l.length/\v=.int .i64 k/\A8 (Nw n s) w wr/\W.heap.size<=wr/\di k wr) (fun v _=>l.length - (intOf v).toNat)
 case atStart=>exact⟨0,Zap _,rfl,ar,Zab _,h0⟩
 case round=>
  obtain⟨k,aH,rfl,J,bp,av⟩:=hrel;by_cases ao:k<l.length
  ·have aQ:(k:Int) <l.length:=by omega
   have a3:Below n w wr:=J.below (fun k a7=>.inl a7);have p2:w.heap.size<=wr:=J.size;have aw:=(Al.Ab Bz.Ab).below ax a3;obtain⟨aD,aF,e,aE,am⟩:=aw;cases e;rcases am with h | ⟨ab,a2,rfl,aL,O⟩
   ·rw[h]at ao;simp at ao
   obtain⟨cs,a6,es,rfl,a5⟩:=O k ao;have a4:=a7 k ao;have iG:=aA k;have k8:F[k]? =some (F[k]'yE):=Zam _;generalize F[k]'yE=t at a4 k8;generalize aJ:l[k]=p at a6 a5 a4;obtain⟨aS,ah,aj,ex⟩:=p;obtain⟨z0,Y,z2,z3,a0,a1,z9,rfl⟩:=Ch.G2 a5;simp only[Zas,Zau]at a6;rcases a4 with⟨D,A⟩ | ⟨D,g,A,U⟩ | ⟨D,A,ap⟩
   ·simp only at D A
    subst D A;have d0:wr.cell? ⟨ab,a2+k*8,none⟩=some (.int .u8 1):=uQ;refine Z0z ?_;intro d1 d2 d3 d4 d5 d6 d7;obtain⟨a8,ad,e3,aa,G⟩:=Bx wr [.int .u8 1,.string t,aj,z0,.float .f64 Y,z2,z3,.slice a0 a1 z9] 124;refine Z2s ?_;intro aI blh aq bh cq ed ez ja jh jd q1 eh;clear a6 O G;exact Z3z
   ·simp only at D A
    subst D A;have M:g<Bv:=(Zeg.1 U).1;have aK:(g:Int) <Bv.length:=yE;rcases hC with h | ⟨aM,co,rfl,ak,gk⟩
    ·rw[Zbr]at h;rw[h]at M;simp at M
    obtain⟨ac,-⟩:=gk g (by simpa using M);rw[Zbh]at ac;have al:Bv[g]=t:=by rw[Zam M]at U;exact Zgq U
    rw[al]at ac;have d0:wr.cell? ⟨ab,a2+k*8,none⟩=some (.int .u8 3):=uQ;refine Z0z ?_;intro d1 d2 d3 d4 d5 d6 d7;obtain⟨a8,ad,e3,aa,G⟩:=Bx wr [.int .u8 3,ah,g,z0,.float .f64 Y,z2,z3,.slice a0 a1 z9] 124;refine Z2s ?_;intro aI blh aq bh cq ed ez ja jh jd q1 eh;clear a6 O G;have az:=Aa ac (a3.trans (aa.mono yE)) ak 0 _ rfl;simp only[Zaf,Zba]at az;exact Z3z
   simp only at D A;subst D A;have au:=fun X (V:Below wr wr X)=>ap _ X (Cz.Ab.below a5 (V.mono yE)) (a3.trans (V.mono yE)) (Zag yE V.size)
   have d0:wr.cell? ⟨ab,a2+k*8,none⟩=some (.int .u8 4):=uQ;refine Z0z ?_;intro d1 d2 d3 d4 d5 d6 d7;obtain⟨a8,ad,e3,aa,G⟩:=Bx wr [.int .u8 4,ah,aj,z0,.float .f64 Y,z2,z3,.slice a0 a1 z9] 124;refine Z2s ?_;intro aI blh aq bh cq ed ez ja jh jd q1 eh;clear a6 O G;gi_wp2_with fail
   refine⟨trivial,fun h=>yT,(Zhq.2 (au a8 aa)).mono ?_⟩;rintro e H ⟨rfl,T⟩;have an:A8 (Nw n s) w H:=aI.trans (A8.By T (fun k a7=>Zal (bn1 k a7) aI.size));have aB:di k H:=(jw k).below blh T (Zab _);gi_wp2_with fail
   refine⟨trivial,fun h=>yT,(Zhq.2 (Afi H)).mono ?_⟩;rintro e w' ⟨rfl,hw⟩;subst w';clear aq bh cq ed ez ja jh jd q1 eh d0 d1 d2 d3 d4 d5 d6 d7;obtain⟨fn,tmps,assign,body,hy,bl⟩:=iG H _ ao ⟨_,k8,rfl⟩ aB;gi_wp2_with fail
   refine⟨fun h=>yT,bl.mono ?_⟩;rintro e bd (⟨rfl,cA,qx⟩ | ⟨rfl,cB,qx⟩)
   ·gi_wp2_with fail
    go_roundw
    case rel=>exact⟨k+1,yE,yK,an.trans qx,Zag (Zag bp (Zag aa.size T.size)) qx.size,cA⟩
    case measure=>simp[intOf];omega
   gi_wp2_with fail
   exact⟨_,Zid rfl _ _ _,⟨_,rfl⟩,.inr cB⟩
  obtain rfl:k=l.length:=by omega
  refine Z1q ?_;intro fe;gi_wp2_with fail
  exact⟨_,Zid rfl _ _ _,⟨_,rfl⟩,.inl av⟩
end
section
open Tryz Go.RowKit Go.Shelf
attribute [local go_sem] Oper.semAt_some
theorem Pk {F:Fence} {n:Nat} {P:Program} (w:zN) {ops:Array Oper} {rest:List Oper} {o:Oper} {a:Act} {Q:Exit->Act->World->Prop}
  (M:o.guard=none) (s x:Operand) (t u:TypeId) (G:o.op=Op.call {callee:=Callee.builtin Builtin.append,args:=#[s,x],argTypes:=#[t,u]})
  (base:Nat) (e:TypeId) (U:P.underlying t=some (.slice e)) (hu:P.underlying u=some .string) (A:(P.info? e).map (fun i=>(i.zero,i.size,i.bytes))=some (some (.int .u8 0),1,1))
  (v:Value) (k:Nat) (xs:zP) (O:a.eval s=v) (a1:w.ownsRow base e 1 v k xs) (st:zS) (H:a.eval x=.string st)
  (b1:k+st.size<=maxLen) (b2:k+st.size<=140737488355328) (W:base<=w.heap.size)
  (J:∀D w',w'.ownsRow base e 1 D (k+st.size) (xs++Lib.strCells st)->w.grownBy w' v.ownBlock->wpListIn F n P ops Q rest (a.put o.dst D) w'):
  wpListIn F n P ops Q (o::rest) a w:=by
 refine wpListIn_plain M fun K V=>?_
 obtain⟨i,a3,a6,a2,T⟩:∃i,P.info? e=some i/\i.zero=some (.int .u8 0)/\i.size=1/\i.bytes=1:=by
  cases hp:P.info? e with
  | none=>rw[hp]at A;cases A
  | some i=>rw[hp]at A;simp only[Zaj,Zbb,Zgr]at A;exact⟨i,rfl,A⟩
 obtain⟨D,w',a4,Y,a0,a7⟩:=Lib.run_append_own_string (P:=P) w base t u o.type e i U hu a3 a6 a2 T v k xs a1 st b1 b2 W
 unfold Oper.wpIn
 refine⟨?_,?_⟩
 ·simp[Oper.about,G,resolve,Target.leads,Zgw]
 rw[Oper.semAt_plain F _ _ (by rw[G];intro c a5;cases a5)]
 simp[execOp,G,resolve,invoke,builtin,O,H,a4,Result.andThen]
 exact V _ _ (J D w' Y a0)
theorem Adt {base:Nat} {e:TypeId} {v:Value} {n B:Nat} {xs:zP}:At B fun X=>X.ownsRow base e 1 v n xs:=fun A C row h H G=>by
 refine h.kept H ?_;cases D:v.ownBlock with
 | none=>exact .inl rfl
 | some k=>
  refine .inr fun M=>?_
  obtain⟨_,o,F,J⟩:=G k M.symm;rcases h.2 with⟨rfl,_⟩ | ⟨g,T,cur,rfl,_,O,_⟩
  ·cases D
  ·cases D
   rw[O]at F;cases F;cases J
theorem Anl (a:zO) (l c:Nat) (p:zO) (D:zO) (A F:Nat) (w:zN):
  Calls prog 221 #[.slice a l c,.pointer p,.slice D A F] w fun e w'=>e=.returned (.func (.func 246) #[] #[zK w,zK (w+1),zK (w+2)])/\((w.alloc (.cells [Value.slice a l c].toArray 115)).alloc (.cells [Value.pointer p].toArray 99)).alloc (.cells [Value.slice D A F].toArray 85)=w':=by
 go_enter func221,ntmps221
 go_wp2
 exact Z0K
def F1 (A:List ByteArray):List UInt8:=A.flatMap fun t=>t.data.toList
def Wl (xs:zQ):List Value:=xs.map fun x=>.int .u8 x.toNat
theorem Aeo {A:List ByteArray} {k:Nat} {t:zS} (h:A[k]? =some t):F1 (A.take (k+1))=F1 (A.take k)++t.data.toList:=by
 simp[F1,List.take_add_one,h]
theorem Ajt (A:List ByteArray) (k:Nat):(F1 (A.take k)).length<=(F1 A).length:=by
 conv=>rhs;rw[<-Zfo k A]
 simp only[F1,List.flatMap_append,Zbj];omega
theorem Qw {w:zN} {base n:Nat} {e:TypeId} {v:Value} {xs:zP} (h:w.ownsRow base e 1 v n xs):∃a c,v=.slice a n c:=by
 rcases h.2 with⟨rfl,h0⟩ | ⟨g,A,cur,rfl,_⟩
 ·exact⟨none,0,by rw[h0]⟩
 exact⟨_,A,rfl⟩
theorem Ale {w:zN} {base:Nat} {e:TypeId} {v:Value} {xs:zQ} (h:w.ownsRow base e 1 v xs (Wl xs)):Dr w (fun _=>True) xs v:=by
 rcases h.2 with⟨rfl,h0⟩ | ⟨g,F,cur,rfl,_,_,A,_⟩
 ·exact⟨none,0,by rw[h0],yE,.inl (Zeo.1 h0)⟩
 refine⟨_,F,rfl,A,.inr ⟨g,0,rfl,trivial,fun j u hu=>?_⟩⟩;have:=h.cells (g:=g) rfl j u hu;have D:(⟨g,0,none⟩:Addr).add j=⟨g,0+j,none⟩:=sF;rwa[D]at this
def Aho (w:zN) (h:Nat) (base:Nat) (A:List ByteArray) (k:Nat) (X:zN):Prop:=
 ∃v,Ar X h 22 [v]/\X.ownsRow base 5 1 v (F1 (A.take k)).length (Wl (F1 (A.take k)))/\Ar X (h+1) 63 [zE]/\Below w w X/\base<=X.heap.size
theorem Aho.B8 {w:zN} {h base:Nat} {G:List ByteArray} {k B:Nat} (H:w<=B):At B fun X=>Aho w h base G k X:=by
 rintro A C row ⟨v,h1,h2,h3,h4,h5⟩ D F;exact⟨v,Ar.B8 A C row h1 D F,Adt A C row h2 D F,Ar.B8 A C row h3 D F,h4.grown D (h4.size) (fun r e=>Zag H (F r e).1),Zag h5 D.size⟩
theorem Afm (s:Ap) (r:A7) (l:List Dl) (b8:∀i p,l[i]? =some p->H9 s r l i p/\p.Bw.size<=10000) (hlen:l.length<=16) (G Bv:List ByteArray) (aE:G.length=l) (bt:(F1 G).length<=512) (a:zO) (c:Nat) (T:zO) (a4 a1:Nat) (w:zN) (aD:Al Bz 8 w (fun b=>b<w) l (.slice a l c))
  (hC:Bs w w 1 T (Bv.map fun x=>[.string x])) (H:∀k (h:k<l.length),Wo w w a1 (.slice T Bv a4) Bv l[k] (G[k]'yE)):
  Calls prog 167 #[.slice a l c,zK a1,.slice T Bv a4] w fun e w'=>e=.returned (.tuple #[.string (Dm (F1 G)),zE])/\Below w w w':=by
 have bd:=Zaa (Ahy s r l b8 hlen _ w w (Zab _) aD)
 refine Z4f ?_
 refine Zhp func167 rfl trivial ?_ rfl
 simp only[ntmps167,Zfk,Zao,Zav,Nat.reduceAdd,Nat.reduceSub,Zcb,Zcc,Zff,Zdl,Zau,Zas]
 refine Zii.2 ?_
 go_wp2_with fail
 go_step3
 go_wp2_with fail
 refine bd.out.mono ?_
 rintro e F ⟨rfl,aa⟩
 obtain⟨ac,b3,aF,ag,ah,aq⟩:=Fk F [zH] [zE] 22 63
 have b0:=ag.cell (j:=0) rfl
 have b2:=ag.frozen 0
 have au:=aF.Em (b':=F.heap.size+1) yE 0 (.int .i64 0)
 have ap:Ar (ac.setCell ⟨F+1,0,none⟩ (.int .i64 0)) (F+1) 63 [zE]:=ag.set 0 (.int .i64 0)
 have aj:Below w w (ac.setCell ⟨F+1,0,none⟩ (.int .i64 0)):=Ek (aa.trans (ah.mono aa.size)) _ _ _ (Zag aa.size ah.size) xA
 have a9:(ac.setCell ⟨F+1,0,none⟩ (.int .i64 0)).heap.size=F.heap.size+2:=by simp[aq]
 have b1:w.heap.size<=F:=aa.size
 have bl:=Zaa aq
 clear aq
 go_wp2_with fail
 go_step3
 clear b0 b2 b3 aF ag ah
 have ax:=Zaa a9
 clear a9
 generalize ac.setCell ⟨F+1,0,none⟩ (.int .i64 0)=Y at au ap aj ax|-
 have a9:=ax.out
 obtain⟨M,aJ,hA4,bb,aT,am,aw⟩:=Jd Y [.slice a l c] [zK a1] [.slice T Bv a4] 115 99 85
 have aS:=Zaa aw
 have aQ:=Zaa aJ
 clear aw aJ a9
 go_wp2_with fail
 refine(Anl a l c (some ⟨a1,0,none⟩) T Bv a4 Y).mono ?_
 rintro e bo ⟨rfl,aC⟩
 rw[aQ.out]at aC
 subst aC
 have bc:=au.below am au.lt
 have aR:=ap.below am ap.lt
 have a0:=aj.trans (am.mono aj.size)
 go_wp2_with fail
 have a9:=ax.out
 have aw:=aS.out
 have aU:Bs M w 1 T (Bv.map fun x=>[.string x]):=hC.below a0 (Zab _)
 have bf:∀k (h:k<l.length),Wo M w a1 (.slice T Bv a4) Bv l[k] (G[k]'yE):=fun k h=>by
  rcases H k h with h1 | h1 | ⟨h1,h2,h3⟩
  ·exact .inl h1
  ·exact .inr (.inl h1)
  exact .inr (.inr ⟨h1,h2,fun es X a7 aM aN=>h3 es X a7 (a0.trans aM) aN⟩)
 have hit:=Ah2 l G Bv aE hlen a c T a4 a1 w Y M yE yE ((Al.Ab Bz.Ab).below aD a0) aU bf hA4 bb aT
 refine(Zii (n:=5)).1 (Gp (gf:=246) (lb:=#[zK Y,zK (Y+1),zK (Y+2)]) rfl (fun _ _=>rfl)
  hit (fun k args X ⟨t,_,e⟩=>yS) A8.trans (fun X aI bs br h1 h2 h3 h4=>⟨rfl,rfl,rfl,vK,fun k H=>Zhj (by rcases H with h | h<;>omega)⟩)
  (fun k X=>Aho w F M G k X/\M.heap.size<=X) (fun _ _=>False) (fun k=>(Aho.B8 a0.size).and (fun A C row h aL bj=>Zag h aL.size)) (fun c=>At.pure _) ⟨⟨.slice none 0 0,bc,Zhi _ _ _ _,aR,a0,Zab _⟩,Zab _⟩
  (fun k ai X=>∃(t:zS) (v0 v1 v2 v3 v4 v5 v6 v7 v12 v13 v14 v15 v16 v17 v18 v19 v20 v21 v22 v23 v24 v25 v26 v27 v28 v29 v30 v31 v32 v33 v34 v35 v36 v37:Value),G[k]? =some t/\ai={tmps:=#[v0,v1,v2,v3,v4,v5,v6,v7,.pointer (some ⟨F,0,none⟩),.pointer (some ⟨F+1,0,none⟩),.string t,.int .i64 0,v12,v13,v14,v15,v16,v17,v18,v19,v20,v21,v22,v23,v24,v25,v26,v27,v28,v29,v30,v31,v32,v33,v34,v35,v36,v37],defers:=[]})
  (fun k ai=>At.pure _) ?assign ?body ?done ?stop)
 case assign=>
  rintro aI k args X K H hI ⟨t,ao,rfl⟩ J;refine Z0y ?_;gi_wp2_with fail
  exact J _ _ (Zdb _ _) (A8.refl _ _) hI ⟨t,_,_,_,_,_,_,_,_,_,_,_,_,_,_,_,_,_,_,_,_,_,_,_,_,_,_,_,_,_,_,_,_,_,_,ao,rfl⟩
 case body=>
  rintro aI k ai X H bu hI ⟨t,v0,v1,v2,v3,v4,v5,v6,v7,v12,v13,v14,v15,v16,v17,v18,v19,v20,v21,v22,v23,v24,v25,v26,v27,v28,v29,v30,v31,v32,v33,v34,v35,v36,v37,ao,rfl⟩;obtain⟨⟨v,a8,O,a7,U,an⟩,az⟩:=hI;obtain⟨a5,a6,rfl⟩:=Qw O;have ar:=Aeo ao;have hle:=Ajt G (k+1);rw[ar,Zbj]at hle;have al:t.data.toList.length=t.size:=by rw[Zbz];rfl
  rw[al]at hle;have aB:=Zaa ar;have aX:=Zaa al;generalize F1 (G.take k)=xs at O hle aB a8;clear ar al;have bm:(xs.length:Int)+t.size<=512:=yE;have af:∀k,(Value.slice a5 xs a6).ownBlock=some k->M.heap.size<=k:=fun k h=>(O.lt k h).1
  have bg:some F.heap.size≠(Value.slice a5 xs a6).ownBlock:=fun e=>by have:=af _ e.symm;omega
  have aP:some (F.heap.size+1)≠(Value.slice a5 xs a6).ownBlock:=fun e=>by have:=af _ e.symm;omega
  have aH:=a8.cell (j:=0) rfl;gi_wp2_with (gi_at_builtin;refine Pk _ rfl _ _ 22 9 rfl M.heap.size 5 yG yG Yv _ xs (Wl xs) rfl O t rfl tN yE an ?_;intro bq ae ak V;obtain⟨a3,a2,rfl⟩:=Qw ak;have av:=a8.grown V bg;have bk:=av.cell (j:=0) rfl;have bn:=av.frozen 0;clear aH)
  have aV:=a7.grown V aP;have ab:=As ae F 0 (.slice a3 (xs+t.size) a2);have b6:=av.set 0 (.slice a3 (xs+t.size) a2);have aW:=aV.grown ab yF;have b7:=ak.kept ab (by
   cases aK:(Value.slice a3 (xs+t.size) a2).ownBlock with
   | none=>exact .inl rfl
   | some k=>refine .inr ?_;have:=(ak.lt k aK).1;simp;omega)
  have ay:=U.grown V U.size (fun r e=>Zag a0.size (af r e));have b4:=Ek ay F 0 (.slice a3 (xs+t.size) a2) ay.size b1;have aO:∀j o,(Value.slice a5 xs a6).ownBlock=some j->X.heap[j]? =some o->o.isCells=true:=fun j o ad aA=>by
   rcases O.2 with⟨e,_⟩ | ⟨g,bv,cur,e,_,bh,_⟩
   ·rw[e]at ad;cases ad
   rw[e]at ad;cases ad;rw[bh]at aA;cases aA;rfl
  have ba:KeepsFrom M X (ae.setCell ⟨F,0,none⟩ (.slice a3 (xs+t.size) a2)):=((KeepsOthers.of_grownBy V aO).trans (Zdd ae ⟨F,0,none⟩ _)).from _;have be:A8 (Nw w Y) X (ae.setCell ⟨F,0,none⟩ (.slice a3 (xs+t.size) a2)):=
   (A8.G0 V (fun k H=>⟨by rcases H with h | h<;>omega,fun e=>by have:=af _ e.symm;rcases H with h | h<;>omega⟩)).trans
    (A8.G0 ab (fun k H=>⟨by have:=V.size;rcases H with h | h<;>omega,by simp;rcases H with h | h<;>omega⟩))
  refine⟨ba,be,⟨_,b6,?_,aW,b4,Zag an (Zag V.size ab.size)⟩,Zag az (Zag V.size ab.size)⟩;rw[aB.out,Zbj,aX.out,Wl,Zet];exact b7
 case done=>
  rintro X ⟨⟨v,a8,O,a7,U,an⟩,az⟩ b9;obtain⟨a5,a6,rfl⟩:=Qw O;have aZ:G.take l.length=G:=by rw[<-aE];exact Zbk
  rw[aZ]at O;have aY:=Ale O;have bi:=Ms aY;have aH:=a8.cell (j:=0) rfl;have bp:=a7.cell (j:=0) rfl;gi_wp2_with fail
  go_wp2_with fail
  rw[Exit.noGoto_ret];exact Fy (B:=M.heap.size) (Z:=fun W=>Below w w W) (E3 a0.size (Zab _))
   (fun b5 h=>⟨_,results_tmp2 rfl _ _ b5,rfl,h⟩) [M.heap.size] X yF (fun D aG=>by simp only[Zbf]at aG;subst aG;exact⟨Zab _,b9⟩) U
 case stop=>
  exact Z1Z
end
section
open Tryz Go.RowKit Go.Shelf
theorem W3 (w:zN) (b o c:Nat) (D:w.rangeAt b o [.int .i64 2]):Calls prog 99 #[.slice (some ⟨b,o,none⟩) 1 c] w fun e w'=>e=.returned (.int .i64 0)/\w'=w:=by
 have d0:=D 0 _ rfl;rw[Zaf]at d0;go_enter func99,ntmps99
 go_wp2;go_step3;go_wp2;go_step3;go_wp2;go_loopw [3,11] (fun F A wr=>F=.int .i64 0/\(A=.int .i64 0\/A=.int .i64 1)/\wr=w) (fun _ A _=>1 - (intOf A).toNat)
 case atStart=>exact⟨rfl,.inl rfl,rfl⟩
 case round=>
  obtain⟨rfl,rfl | rfl,rfl⟩:=hrel
  ·go_wp2
   exact⟨⟨rfl,.inr rfl,trivial⟩,wJ⟩
  clear d0;go_wp2_with fail
  simp only[Exit.noGoto];exact Z0K
theorem Afp (i t:Int) (w:zN):Calls prog 101 #[.agg #[i,t]] w fun e w'=>e=.returned (.bool (decide (0<=i)))/\Below w w w':=by
 go_enter func101,ntmps101
 exact Z0N
theorem Aae (w:zN) (b o c g h:Nat) (A:w.rangeAt b o [.int .i64 2]) (D:Ar w g 160 [.slice (some ⟨b,o,none⟩) 1 c]) (F:Ar w h 3 [zE]):
  Calls prog 133 #[zE,zK g,zK h] w fun e w'=>e=.returned (.bool false)/\∃n,w'=w.drewN n:=by
 have d0:=A 0 _ rfl
 rw[Zaf]at d0
 have g0:=D.cell (j:=0) rfl
 have h0:=F.cell (j:=0) rfl
 go_enter func133,ntmps133
 go_wp2_with fail
 go_quiet (fail)
 go_wp2_with fail
 go_ret
 exact⟨rfl,_,rfl⟩
theorem Ac5 (w:zN) (b o c:Nat) (U:b<w) (J:w.rangeAt b o [.int .i64 2]):Calls prog 100 #[.slice (some ⟨b,o,none⟩) 1 c] w fun e w'=>e=.returned (.agg #[zE,.int .i64 2])/\Below w w w':=by
 obtain⟨M,af,V,ae,F,D,al⟩:=Jd w [.slice (some ⟨b,o,none⟩) 1 c] [zE,zE] [zE] 160 205 3;have G:=V.cell (j:=0) rfl;have ai:=Aa J D U;have z0:=F.cell (j:=0) rfl;have ag:=F.frozen 0;go_enter func100,ntmps100
 go_upto_region 4 with fail
 rw[show w.heap.size+1+1=w+2 from rfl];have T:=As M (w+2) 0 (.int .i64 0);have a5:Ar (M.setCell ⟨w+2,0,none⟩ (.int .i64 0)) (w+2) 3 [zE]:=F.set 0 (.int .i64 0);have W:=V.grown T yF;have ad:=ae.grown T yF;have a3:=Ek D (w+2) 0 (.int .i64 0) D.size yE;clear G ai z0 ag af V ae F D T;generalize M.setCell ⟨w+2,0,none⟩ (.int .i64 0)=aj at a5 W ad a3|-;have G:=W.cell (j:=0) rfl;go_wp2_with fail
 clear G;go_loopw [13] (fun H wr=>(H=.int .i64 0\/H=.int .i64 1)/\Ar wr (w+2) 3 [zE]/\Ar wr w 160 [.slice (some ⟨b,o,none⟩) 1 c]/\Ar wr (w+1) 205 [zE,zE]/\Below w w wr) (fun H _=>1 - (intOf H).toNat)
 case atStart=>exact⟨.inl rfl,a5,W,ad,a3⟩
 case round=>
  obtain⟨rfl | rfl,a1,O,ab,A⟩:=hrel
  ·have a0:=Aa J A U
   go_wp2_with fail
   refine(Aae wr b o c w (w+2) a0 O a1).mono ?_;rintro e w' ⟨rfl,n,a2⟩;have a8:=a1.drewN n;have a6:=O.drewN n;have ac:=ab.drewN n;have a9:=Bk A n A.size;rw[<-a2]at a8 a6 ac a9;clear a2;go_wp2;exact⟨⟨.inr yK,a8,a6,ac,a9⟩,wJ⟩
  have a0:=Aa J A U;have d0:=a0 0 _ rfl;rw[Zaf]at d0;have z0:=a1.cell (j:=0) rfl;have G:=O.cell (j:=0) rfl;go_wp2_with fail
  go_still_tail 6,yG
  change wpList _ _ _ _ _ wr.drew
  have Y:=ab.drewN 1
  change Ar wr.drew _ _ _ at Y
  have ah:=Y.there;refine wpList_store_row rfl 205 _ _ rfl (w.heap.size+1) 0 [zE,.int .i64 2] rfl rfl ah yG yL ?_;have a7:=Y.fill (vs:=[zE,.int .i64 2]) rfl;have a4:Below w w wr.drew:=Bk A 1 A.size;have aa:=Cn a4 (w+1) 0 [zE,.int .i64 2] a4.size yE;generalize wr.drew.setCells (w+1) 0 [.int .i64 0,.int .i64 2]=ak at a7 aa|-;simp only[wpList];go_wp2_with fail
  exact Zho (v:=.agg #[zE,.int .i64 2]) (Aq rfl _ _ (w+1) 0 [zE,.int .i64 2] rfl a7.range yG yG) rfl ⟨rfl,aa⟩
theorem Wz (w:zN) (v:Value) (i t:Int) (aa: -1<=i) (ae:i<=100) (h1:Calls prog 99 #[v] w fun e w'=>e=.returned (.int .i64 0)/\w'=w) (h2:Calls prog 100 #[v] w fun e w'=>e=.returned (.agg #[i,t])/\Below w w w'):
  Calls prog 68 #[v] w fun e w'=>e=.returned (.tuple #[.int .i64 (max i 0),.bool (decide (0<=i)),zE])/\Below w w w':=by
 have c3:=Zaa h1
 have a9:=Zaa h2
 clear h1 h2
 go_enter func68,ntmps68
 go_wp2_with fail
 refine Z54 ?_
 rintro e w' ⟨rfl,hw⟩
 subst w'
 go_wp2_with fail
 refine a9.out.mono ?_
 rintro e A ⟨rfl,F⟩
 obtain⟨T,a6,M,U,ad⟩:=Bx A [zE,zE] 205
 have Y:=M.there
 go_wp2_with (refine wpList_store_row rfl 205 _ _ rfl A.heap.size 0 [i,t] rfl rfl Y yG yL ?_)
 have O:=M.fill (vs:=[i,t]) rfl
 have G:Below w w (T.setCells A 0 [i,t]):=Cn (F.trans (U.mono F.size)) A 0 [i,t] (Zag F.size U.size) F.size
 clear a6 Y M
 generalize T.setCells A 0 [.int .i64 i,.int .i64 t]=a1 at O G|-
 go_wp2_with fail
 refine Ce [(0,.inl none),(1,.inl (some 0)),(2,.inl none),(3,.inl (some 0)),(4,.inr ([],[0])),(5,.inl none),(6,.inl none),(7,.inl none)]
  (fun _ X=>Ar X A 205 [i,t]) [0] yG yG (fun _ _=>O.drewN 1) ?_
 refine Z3s ?_
 have D:=O.drewN 1
 have H:=Bk G 1 G.size
 generalize a1.drewN 1=a2 at D H|-
 have a4:=D.cell (j:=0) rfl
 have a7:=D.cell (j:=1) rfl
 refine Z3Z ?_
 refine Ba (.int .i64 i) yI (fun w' a0=>?_) (fun K J=>?_)
 ·have ac:=a0.cell (j:=0) rfl
  go_simp
 refine Z2n ?_
 clear J K
 refine Z3Z ?_
 refine D9 (.agg [.int .i64 i,.int .i64 t].toArray) rfl (fun W a3=>B6 205 _ rfl A.heap.size 0 rfl [i,t] a3.range yG yG) ?_
 refine A1 rfl (fun K J=>?_)
 go_wp2_with fail
 refine(Afp i t a2).mono ?_
 rintro e ab ⟨rfl,V⟩
 have a8:=D.below V D.lt
 have a5:=H.trans (V.mono H.size)
 go_wp2_with fail
 refine J _ _ yF (fun _ _ _=>a8) ?_
 clear J K a4 a7
 refine Z4K ?_
 refine B1 ?_
 go_wp2_with fail
 exact Zho (Od rfl _ _ (.int .i64 (max i 0)) (.bool (decide (0<=i))) (.int .i64 0) rfl rfl rfl) rfl ⟨rfl,a5⟩
theorem Wx (w:zN) (b o c:Nat) (U:b<w) (A:w.rangeAt b o [.int .i64 2]):Calls prog 68 #[.slice (some ⟨b,o,none⟩) 1 c] w fun e w'=>e=.returned (.tuple #[zE,zB,zE])/\Below w w w':=
 Wz w _ 0 2 yH yH (W3 w b o c A) (Ac5 w b o c U A)
end
section
open Tryz Go.RowKit Go.Shelf
structure S5 where
 kind:Nat
 low:Int
 high:Int
 bytes:ByteArray
def D6 (_w:zN) (_S:zT) (e:S5) (cs:zP):Prop:=cs=[.int .u8 e.kind,.int .i64 e.low,.int .i64 e.high,.string e.bytes]
theorem D6.Ab:Cp D6:=fun _ _ _ _ _ _ _ _ h=>h
structure Bb where
 state:Nat
 low:Nat
 Az:Nat
 Bd:List UInt8
 eof:Bool
 Ec:Nat
 Es:Int
 A5:List S5
 left:Int
 used:Int
 x:Nat
structure Bt (w:zN) (P:zT) (lo b6 mt bf lb an:Nat) (s0 s1 s2:Value) (st:Bb):Prop where
 box:∃aj dp,Ar w b6 107 [s0,s1,s2,st.state,zK bf,aj,st.low,st.Az,st.eof,zK mt,dp,.int .u8 st.Ec,st.Es]/\
  Dr w (fun b=>b<w/\b≠b6/\b≠mt/\b≠lb/\some b≠dp.ownBlock/\¬P b) st.Bd aj/\Au D6 lo 77 4 w st.A5 dp/\
  ∀k,dp.ownBlock=some k->¬P k/\k≠b6/\k≠mt/\k≠bf/\k≠lb/\k≠an
 store:G5 w bf lb an st.x
 Ny:Ar w mt 152 (Oj st.left st.used)
 own:¬P b6/\¬P mt/\¬P lb/\b6≠mt/\b6≠bf/\b6≠lb/\b6≠an/\mt≠bf/\mt≠lb/\mt≠an
 low:∀k,P k->k<w.heap.size
 lo:lo<=w
theorem Bt.below {w w':zN} {P:zT} {lo A mt bf lb an:Nat} {s0 s1 s2:Value} {st:Bb} (h:Bt w P lo A mt bf lb an s0 s1 s2 st) (g:Below w w w'):Bt w' P lo A mt bf lb an s0 s1 s2 st:=by
 obtain⟨⟨F,J,U,H,he,bx⟩,b0,hm,hw,G,M⟩:=h;refine Z29 ?_;intro wk uo we;exact⟨⟨F,J,U.below g U.lt,Dr.Ab.wide (Dr.Ab.block H fun b U=>g.block b U.1) (fun b U=>⟨Zal U.1 g.size,U.2⟩),he.below D6.Ab g (Zab _),bx⟩,
  b0.C4 (A8.By (P:=fun b=>b<w) g (fun _ h=>h)) wk uo we,hm.below g hm.lt,hw,fun k D=>Zal (G k D) g.size,Zag M g.size⟩
theorem Uf (w:zN) (P:zT) (lo D mt O lb M:Nat) (s0 s1:Value) (st:Bb) (l:List Bc) (S:zT) (H:zO) (F:Nat) (h:Bt w P lo D mt O lb M s0 s1 (.slice H l F) st) (V:Al Cf 2 w S l (.slice H l F)) (A:st.state<l.length):
  Calls prog 67 #[zK D] w fun e w'=>∃v,e=.returned v/\Al Bj 16 w S (l[st.state]).Ai v/\∃n,w'=w.drewN n:=by
 obtain⟨⟨W,a2,U,-⟩,-⟩:=h
 obtain⟨a,c,e,a0,J⟩:=V
 cases e
 rcases J with h0 | ⟨b,o,rfl,Y,T⟩
 ·rw[h0]at A;simp at A
 obtain⟨cs,h1,v,rfl,G⟩:=T st.state A
 have d1:=h1 1 _ rfl
 have a1:=U.cell (j:=2) rfl
 have a3:=U.cell (j:=3) rfl
 have a5:(st.state:Int) <l.length:=yE
 obtain⟨a4,rc,rfl,-⟩:=id G
 go_enter func67,ntmps67
 go_wp2_with fail
 go_quiet (fail)
 go_wp2_with fail
 go_ret
 exact⟨_,rfl,G,_,rfl⟩
end
section
open Tryz Go.RowKit Go.Shelf
theorem Zq (l:List S5) (Y a2:zO) (O H:Nat) (w:zN) (n:Nat) (a9:n<=w) (ab:l.length<=1000) (h1:Al D6 4 w (fun b=>b<n) l (.slice Y l O)) (h2:Al D6 4 w (fun b=>b<n) l (.slice a2 l H)):
  Calls prog 18 #[.slice Y l O,.slice a2 l H] w fun e w'=>e=.returned (.bool true)/\Below w w w':=by
 have H1:=Zaa h1
 have a3:=Zaa h2
 have ae:((l.length:Int) != l.length)=false:=yF
 clear h1 h2
 go_enter func18,ntmps18
 go_wp2_with fail
 go_loopw [13] (fun v wr=>∃j:Nat,j<=l/\v=.int .i64 j/\Below w w wr) (fun v _=>l.length - (intOf v).toNat)
 case atStart=>exact⟨0,Zap _,rfl,Zai _ _⟩
 case round=>
  obtain⟨j,aa,rfl,U⟩:=hrel;rcases Zga j l.length with A | al
  ·have ad:(j:Int) <l.length:=by omega
   obtain⟨ah,aj,a5,-,h0 | ⟨b1,a1,rfl,a7,T⟩⟩:=H1.out
   ·rw[h0]at A;simp at A
   cases a5;obtain⟨ai,ak,a4,-,h0 | ⟨b2,V,rfl,a8,a0⟩⟩:=a3.out
   ·rw[h0]at A;simp at A
   cases a4;obtain⟨af,g1,q1⟩:=T j A;obtain⟨ag,g2,a6⟩:=a0 j A;cases q1;cases a6;generalize l[j].kind=k at g1 g2;generalize l[j].low=a at g1 g2;generalize l[j].high=b at g1 g2;generalize l[j].bytes=s at g1 g2;have D:=Bk U 1 U.size;have G:=Aa g1 D yE;have M:=Aa g2 D yE;clear g1 g2 T a0;go_upto_region 6 with fail
   refine Ce [(0,.inl none),(1,.inl none),(2,.inl none),(3,.inl (some 0)),(4,.inl none),(5,.inl none),(6,.inl none),(7,.inl (some 0)),(8,.inl none)]
    (fun _ X=>X.rangeAt b1 (a1+j*4) [.int .u8 k,a,b,s]/\X.rangeAt b2 (V+j*4) [.int .u8 k,a,b,s]) [0] yG yG (fun _ _=>⟨G,M⟩) ?_
   refine Z09 ?_;generalize wr.drewN 1=wd at D G M|-;refine Z3x ?_;refine Gx (v:=.agg #[.int .u8 k,a,b,s]) rfl (fun W F=>B6 77 _ rfl b1 (a1+j*4) rfl [.int .u8 k,a,b,s] F.1 yG yG) ?_;refine Z3x ?_;refine Gx (v:=.agg #[.int .u8 k,a,b,s]) rfl (fun W F=>B6 77 _ rfl b2 (V+j*4) rfl [.int .u8 k,a,b,s] F.2 yG yG) ?_;refine Z2o ?_;refine B1 ?_;go_wp2;exact⟨⟨j+1,A,yK,D⟩,xJ⟩
  obtain rfl:j=l:=by omega
  have ac:¬((l.length:Int) <l.length):=yE;exact Z3a
end
section
open Tryz Go.RowKit Go.Shelf
theorem Zb:prog.underlying 56=some (.slice 77):=yG
theorem Ad4:(prog.info? 77).map (fun i=>(i.size,i.bytes,i.zero.map fun z=>z.cells.size))=some (4,40,some 4):=yG
def S5.cells (e:S5):List Value:=[.int .u8 e.kind,.int .i64 e.low,.int .i64 e.high,.string e.bytes]
theorem Ae3 (w:zN) (P:zT) (lo D mt M lb Y:Nat) (s0 s1 s2:Value) (st:Bb) (h:Bt w P lo D mt M lb Y s0 s1 s2 st) (e:S5) (hlen:st.A5.length<=1000):
  Calls prog 98 #[zK D,.agg e.cells.toArray] w fun r w'=>r=.returned (.tuple #[])/\Bt w' P lo D mt M lb Y s0 s1 s2 {st with A5:=st.A5++[e]}/\A8 P w w':=by
 have aF:=h.low
 obtain⟨a4,aV,al,ac,aN⟩:=Bx w e.cells 77
 have h1:=h.below ac
 obtain⟨⟨ae,b0,U,aI,he,a2⟩,aU,hm,hw,ah,b3⟩:=id h1
 obtain⟨T,O,rfl,b2⟩:=he.shape
 have cf:¬((st.A5.length:Int)=65536):=yE
 have aW:((st.A5.length:Int)==65536)=false:=vO
 have a6:=U.cell (j:=10) rfl
 unfold S5.cells at*
 go_enter func98,ntmps98
 go_upto_region 3 with fail
 refine Ce [(0,.inl none),(1,.inl none),(2,.inl none),(3,.inl none),(4,.inl none),(5,.inl (some 0)),(6,.inl (some 0)),(7,.inr ([],[0])),(8,.inr ([],[])),(9,.inl none),(10,.inl none),(11,.inl none),(12,.inr ([],[]))]
  (fun _ X=>Ar X D 107 [s0,s1,s2,st.state,zK M,ae,st.low,st.Az,st.eof,zK mt,.slice T st.A5 O,.int .u8 st.Ec,st.Es]/\Ar X w 77 [.int .u8 e.kind,e.low,e.high,e.bytes]) [0] yG yG (fun _ _=>⟨U.drewN 1,al.drewN 1⟩) ?_
 refine Z3s ?_
 have aO:=al.drewN 1
 have a5:=U.drewN 1
 have a1:Below a4 a4 (a4.drewN 1):=Bk (Zai _ _) 1 (Zab _)
 have h2:=h1.below a1
 have ag:=he.below D6.Ab a1 (Zab _)
 clear a6
 generalize a4.drewN 1=F at aO a5 a1 h2 ag|-
 have a6:=a5.cell (j:=10) rfl
 refine Z03 ?_
 refine Z4K ?_
 refine Ba (.slice T st.A5 O) yI (fun w' av=>?_) (fun K J=>?_)
 ·have aX:=av.1.cell (j:=10) rfl
  go_simp
 refine Z2n ?_
 clear J K
 refine D9 (.agg [.int .u8 e.kind,.int .i64 e.low,.int .i64 e.high,.string e.bytes].toArray) rfl (fun W aC=>B6 77 _ rfl w.heap.size 0 rfl [.int .u8 e.kind,e.low,e.high,e.bytes] aC.2.range yG yG) ?_
 refine A1 rfl (fun K J=>?_)
 go_wp2_with fail
 refine J _ _ yF (fun _ _ af=>⟨af.1.alloc _,af.2.alloc _⟩) ?_
 clear J K
 refine A1 rfl (fun K J=>?_)
 have ak:=h2.lo
 refine Am D6.Ab rfl _ _ 56 rfl lo 77 4 40 Zb Ad4 yH st.A5 _ rfl ag e [.int .u8 e.kind,e.low,e.high,e.bytes] rfl rfl rfl rfl yL tN yE ak ?_
 intro G H ad aH b4 aT a3 b1 aL
 simp only[wpList,Dz]
 have cf:∀k,k=D\/k=mt\/k=M\/k=lb\/k=Y->some k≠(Value.slice T st.A5 O).ownBlock:=fun k A e=>by
  obtain⟨_,h1,h2,h3,h4,h5⟩:=a2 k e.symm;rcases A with h | h | h | h | h<;>contradiction
 have ab:=a5.grown a3 (cf D (.inl rfl))
 clear a6
 have a6:=ab.cell (j:=10) rfl
 have f10:=ab.frozen 10
 refine Z4v ?_
 clear J K
 refine Z4K ?_
 refine A1 rfl (fun K J=>?_)
 go_wp2_with fail
 refine Z4v ?_
 clear J K
 refine B1 ?_
 go_wp2_with fail
 have V:=As ad D 10 (.slice G (st.A5+1) H)
 have am:=ab.set 10 (.slice G (st.A5+1) H)
 generalize ad.setCell ⟨D,10,none⟩ (.slice G (st.A5+1) H)=a0 at V am|-
 obtain⟨aq,aS,ay,an,ap,ai,au,aR,aG,aD⟩:=hw
 have aZ:D<F:=a5.lt
 have a9:∀k,k<F.heap.size->k≠D->some k≠(Value.slice T st.A5 O).ownBlock->a0.heap[k]? =F.heap[k]? :=fun k A h1 h2=>(V.block k yE vD).trans (a3.block k A h2)
 have a8:F.heap.size<=a0:=Zag yE V.size
 have ao:∀k,(Value.slice G (st.A5+1) H).ownBlock=some k->(Value.slice T st.A5 O).ownBlock=some k\/F.heap.size<=k:=fun k A=>by
  rcases aL with h | ⟨g,h,ax⟩
  ·exact .inl (h▸A)
  rw[h]at A;cases A;exact .inr ax
 have a7:=h2.store
 have aM:=(show M<F from by obtain⟨_,_,_,U,_⟩:=a7.box;exact U.lt)
 have aJ:lb<F:=(by obtain⟨_,_,_,_,a2⟩:=a7.box;exact(a2.lt lb rfl).2)
 have aK:Y<F:=(by obtain⟨_,_,hm⟩:=a7.map;exact(Zbx.1 hm).1)
 have aj:A8 (fun k=>k<F.heap.size/\k≠D/\some k≠(Value.slice T st.A5 O).ownBlock) F a0:=
  ⟨V.os.trans a3.os,V.tape.trans a3.tape,V.output.trans a3.output,a8,fun k A=>a9 k A.1 A.2.1 A.2.2⟩
 have aa:=h2.low
 have aQ:A8 P w a0:=(A8.By ac (fun k A=>(by have:=ah k A;have:=aN;exact(aF k A)))).trans ((A8.By a1 ah).trans (aj.Gz fun k A=>⟨aa k A,fun e=>aq (e▸A),fun e=>(a2 k e.symm).1 A⟩))
 have aB:=Dr.Ab.wide (Dr.Ab.block aI fun b U=>a1.block b U.1) (S':=fun b=>b<F/\b≠D/\b≠mt/\b≠lb/\some b≠(Value.slice T st.A5 O).ownBlock/\¬P b) (fun b U=>⟨Zal U.1 a1.size,U.2⟩)
 have az:=Dr.Ab.wide (Dr.Ab.block aB fun b U=>a9 b U.1 U.2.1 U.2.2.2.2.1) (S':=fun b=>b<a0/\b≠D/\b≠mt/\b≠lb/\some b≠(Value.slice G (st.A5+1) H).ownBlock/\¬P b) (fun b U=>⟨Zal U.1 a8,U.2.1,U.2.2.1,U.2.2.2.1,fun aP=>by
  rcases ao b aP.symm with h | h
  ·exact U.2.2.2.2.1 h.symm
  have:=U.1;omega,U.2.2.2.2.2⟩)
 have ar:∀k,(Value.slice G (st.A5+1) H).ownBlock=some k->¬P k/\k≠D/\k≠mt/\k≠M/\k≠lb/\k≠Y:=fun k A=>by
  rcases ao k A with h | h
  ·exact a2 k h
  have aY:=h2.Ny.lt;exact⟨fun hp=>by have:=aa k hp;omega,yE,yE,yE,yE,yE⟩
 have aE:Au D6 lo 77 4 a0 (st.A5++[e]) (.slice G (st.A5+1) H):=by
  obtain⟨aw,g1,g2,g3⟩:=aH;refine⟨aw,g1.grown V ?_,g2,g3⟩;cases aA:(Value.slice G (st.A5+1) H).ownBlock with
  | none=>exact .inl rfl
  | some k=>exact .inr (by have:=(ar k aA).2.1;simpa using this)
 go_end0
 exact⟨rfl,⟨⟨ae,_,am,az,aE,ar⟩,
  a7.C4 aj ⟨aM,fun e=>ap e.symm,cf M (.inr (.inr (.inl rfl)))⟩ ⟨aJ,fun e=>ai e.symm,cf lb (.inr (.inr (.inr (.inl rfl))))⟩ ⟨aK,fun e=>au e.symm,cf Y (.inr (.inr (.inr (.inr rfl))))⟩,
  h2.Ny.C4 (a9 mt h2.Ny.lt (fun e=>an e.symm) (cf mt (.inr (.inl rfl)))),⟨aq,aS,ay,an,ap,ai,au,aR,aG,aD⟩,fun k A=>Zal (aa k A) a8,Zag ak a8⟩,aQ⟩
end
section
open Tryz Go.RowKit Go.Shelf
theorem Bt.U1 {w w':zN} {P:zT} {lo D mt bf lb an:Nat} {s0 s1 s2:Value} {st:Bb} (A:Bb) (h:Bt w P lo D mt bf lb an s0 s1 s2 st) {M F:Value} (he:Au D6 lo 77 4 w st.A5 F)
  (bx:∀k,F.ownBlock=some k->¬P k/\k≠D/\k≠mt/\k≠bf/\k≠lb/\k≠an) (G:w.grownBy w' (some D)) (W:A.A5=st.A5) (V:A.x=st.x) (a1:A.left=st.left) (a5:A.used=st.used)
  (a3:Ar w' D 107 [s0,s1,s2,A.state,zK bf,M,A.low,A.Az,A.eof,zK mt,F,.int .u8 A.Ec,A.Es])
  (a0:Dr w (fun b=>b<w/\b≠D/\b≠mt/\b≠lb/\some b≠F.ownBlock/\¬P b) A.Bd M):Bt w' P lo D mt bf lb an s0 s1 s2 A:=by
 have b0:=h.store
 refine Z29 ?_
 intro wk uo we
 obtain⟨aa,ac,a7,a2,a4,Y,a6,ab,a9,a8⟩:=h.own
 have J:A8 (fun k=>k<w.heap.size/\k≠D) w w':=A8.G0 G fun k H=>⟨H.1,by simpa using H.2⟩
 refine⟨⟨M,F,a3,Dr.Ab.wide (Dr.Ab.block a0 fun b U=>J.block b ⟨U.1,U.2.1⟩) (fun b U=>⟨Zal U.1 G.size,U.2⟩),?_,bx⟩,?_,?_,h.own,fun k H=>Zal (h.low k H) G.size,Zag h.lo G.size⟩
 ·rw[W]
  obtain⟨O,g1,g2,g3⟩:=he;refine⟨O,g1.grown G ?_,g2,g3⟩;cases T:F.ownBlock with
  | none=>exact .inl rfl
  | some k=>exact .inr (by have:=(bx k T).2.1;simpa using this)
 ·rw[V];exact b0.C4 J ⟨wk,fun e=>a4 e.symm⟩ ⟨uo,fun e=>Y e.symm⟩ ⟨we,fun e=>a6 e.symm⟩
 rw[a1,a5];exact h.Ny.C4 (J.block mt ⟨h.Ny.lt,fun e=>a2 e.symm⟩)
theorem Bt.kept {w w':zN} {P:zT} {lo D mt H lb F:Nat} {s0 s1 s2:Value} {st:Bb} (h:Bt w P lo D mt H lb F s0 s1 s2 st) (G:w.grownBy w' (some D)):A8 P w w':=
 A8.G0 G fun k A=>⟨h.low k A,fun e=>h.own.1 (by cases e;exact A)⟩
theorem Amo {w:zN} {S:zT} {xs:zQ} {a:zO} {c n:Nat} (h:Dr w S xs (.slice a xs c)) (J:n<=xs):
  Dr w S (xs.drop n) (.slice (if c=n then a else a.map fun x=>x.add n) (xs - n) (c - n)):=by
 obtain⟨M,U,e,T,h⟩:=h
 cases e
 refine⟨_,_,by rw[List.length_drop],by rw[List.length_drop];omega,?_⟩
 by_cases A:xs.drop n=[]
 ·exact .inl A
 rcases h with h | ⟨b,o,rfl,G,D⟩
 ·rw[h]at A;simp at A
 have O:n<xs:=by
  rcases Zga n xs.length with h | h
  ·exact h
  exact absurd (Zdp h) A
 have H:¬c=n:=yE
 refine .inr ⟨b,o+n,?_,G,fun j v F=>?_⟩
 ·rw[if_neg H]
  simp only[Zaj,Zbb];unfold Addr.add;split<;>simp_all
 have:=D (n+j) v (by rw[<-F];simp[Zef])
 rwa[<-Zfx]at this
theorem Aar (w:zN) (P:zT) (lo A mt M lb a3:Nat) (s0 s1 s2:Value) (st:Bb) (h:Bt w P lo A mt M lb a3 s0 s1 s2 st) (a0 n:Nat) (al:n<=st.Bd) (aD:st.low<=1000) (aE:st.Bd.length<=1000) (hlen:st.A5.length<=1000):
  Calls prog 65 #[zK A,.int .u8 a0,n] w fun r w'=>r=.returned (.tuple #[])/\Bt w' P lo A mt M lb a3 s0 s1 s2 {st with A5:=st.A5++[⟨a0,st.low,(st.low:Int)+n,⟨#[]⟩⟩],Bd:=st.Bd.drop n,low:=st.low+n}/\A8 P w w':=by
 obtain⟨⟨ax,aC,U,ar,he,ap⟩,-⟩:=id h
 have O:=U.cell (j:=6) rfl
 have a6:IntKind.i64.wrap ((st.low:Int)+n)=st.low+n:=Zcy _ yE
 have ae:=Zaa (h.below (Bk (Zai _ _) 1 (Zab _)))
 have a7:Below w w (w.drewN 1):=Bk (Zai _ _) 1 (Zab _)
 go_enter func65,ntmps65
 go_wp2_with fail
 go_still_tail 13,yG
 clear a6
 change wpList _ _ _ _ _ w.drew
 have Y:=ae.out
 change Bt w.drew _ _ _ _ _ _ _ _ _ _ _ at Y
 change Below w w w.drew at a7
 generalize w.drew=a9 at Y a7|-
 go_wp2_with fail
 refine(Ae3 a9 P lo A mt M lb a3 s0 s1 s2 st Y ⟨a0,st.low,(st.low:Int)+n,⟨#[]⟩⟩ hlen).mono ?_
 rintro e F ⟨rfl,h2,au⟩
 clear U ar he ap O ae Y
 obtain⟨⟨az,a5,a2,a4,ad,ak⟩,-⟩:=id h2
 obtain⟨W,D,rfl,aw,aq⟩:=id a4
 simp only at a2 a4 ad ak aw aq
 go_wp2_with fail
 refine Ce [(0,.inl none),(1,.inl none),(2,.inl none),(3,.inl none),(4,.inl none),(5,.inl (some 0)),(6,.inl none),(7,.inl none),(8,.inl none),(9,.inl none),(10,.inl none),(11,.inl (some 0)),(12,.inl none),(13,.inl none),(14,.inl none),(15,.inl none),(16,.inr ([],[])),(17,.inl none),(18,.inl none),(19,.inr ([],[]))]
  (fun _ X=>Ar X A 107 [s0,s1,s2,st.state,zK M,.slice W st.Bd D,st.low,st.Az,st.eof,zK mt,a5,.int .u8 st.Ec,st.Es]) [0] yG yG (fun _ _=>a2.drewN 1) ?_
 refine Z3s ?_
 have H:=a2.drewN 1
 have G:Below F F (F.drewN 1):=Bk (Zai _ _) 1 (Zab _)
 have h3:=h2.below G
 have ag:=ad.below D6.Ab G (Zab _)
 have aa:=Dr.Ab.wide (Dr.Ab.block a4 fun b U=>G.block b U.1) (S':=fun b=>b< (F.drewN 1).heap.size/\b≠A/\b≠mt/\b≠lb/\some b≠a5.ownBlock/\¬P b) (fun b U=>⟨Zal U.1 G.size,U.2⟩)
 have ah:A8 P a9 (F.drewN 1):=au.trans (A8.By G h2.low)
 generalize F.drewN 1=ab at H G h3 ag aa ah|-
 have av:=H.cell (j:=5) rfl
 have O:=H.cell (j:=6) rfl
 refine Z03 ?_
 refine Z4K ?_
 refine Ba (.slice W st.Bd D) yI (fun w' a1=>?_) (fun K J=>?_)
 ·have an:=a1.cell (j:=5) rfl
  go_simp
 refine Z2n ?_
 clear J K
 refine Z3Z ?_
 have aA:(n:Int)<=st.Bd.length:=yE
 have ay:(n:Int)<=D:=yE
 have aB:(st.Bd.length:Int)<=D:=yE
 refine Z3Z ?_
 have aj:=Amo aa al
 generalize(if D=n then W else Option.map (fun x=>x.add n) W)=T at aj|-
 have a6:IntKind.i64.wrap ((st.low:Int)+n)=st.low+n:=Zcy _ yE
 refine Z4K ?_
 refine Ba (.int .i64 st.low) yI (fun w' a1=>?_) (fun K J=>?_)
 ·have an:=a1.cell (j:=6) rfl
  go_simp
 refine Z2n ?_
 clear J K
 refine Z03 ?_
 clear a6
 refine Z03 ?_
 have f5:=H.frozen 5
 refine A1 rfl (fun K J=>?_)
 go_wp2_with fail
 refine Z4v ?_
 clear J K av O f5
 have V:=H.set 5 (.slice T (st.Bd - n) (D - n))
 have ai:=As ab A 5 (.slice T (st.Bd - n) (D - n))
 generalize ab.setCell ⟨A,5,none⟩ (.slice T (st.Bd - n) (D - n))=ac at V ai|-
 have O:=V.cell (j:=6) rfl
 have f6:=V.frozen 6
 refine Z03 ?_
 refine A1 rfl (fun K J=>?_)
 go_wp2_with fail
 refine Z4v ?_
 clear J K O f6
 have af:=V.set 6 (.int .i64 ((st.low:Int)+n))
 have a8:=Bn ai (As ac A 6 (.int .i64 ((st.low:Int)+n)))
 generalize ac.setCell ⟨A,6,none⟩ (.int .i64 ((st.low:Int)+n))=am at af a8|-
 refine B1 ?_
 go_wp2_with fail
 have ao:Ar am A 107 [s0,s1,s2,st.state,zK M,.slice T (st.Bd - n) (D - n),.int .i64 ((st.low+n:Nat):Int),st.Az,st.eof,zK mt,a5,.int .u8 st.Ec,st.Es]:=by
  rw[Zct];exact af
 go_end0
 exact⟨rfl,h3.U1 {st with A5:=st.A5++[⟨a0,st.low,(st.low:Int)+n,⟨#[]⟩⟩],Bd:=st.Bd.drop n,low:=st.low+n} ag ak a8 rfl rfl rfl rfl ao aj,(A8.By a7 h.low).trans (ah.trans (h3.kept a8))⟩
end
section
open Tryz Go.RowKit Go.Shelf
theorem Akn (w:zN) (P:zT) (lo H mt F lb M:Nat) (s0 s1 s2:Value) (st:Bb) (h:Bt w P lo H mt F lb M s0 s1 s2 st) (s:Ap) (r:A7) (l:List Dl) (V:∀i p,l[i]? =some p->H9 s r l i p/\p.Bw.size<=10000) (hlen:l.length<=16) (A Bv:List ByteArray) (T:A.length=l) (Y:(F1 A).length<=512) (a:zO) (c:Nat) (D:zO) (G:Nat) (O:Al Bz 8 w (fun b=>b<w) l (.slice a l c))
  (hC:Bs w w 1 D (Bv.map fun x=>[.string x])) (J:∀k (h:k<l.length),Wo w w F (.slice D Bv G) Bv l[k] (A[k]'yE)):
  Calls prog 135 #[zK H,.slice a l c,.slice D Bv G] w fun e w'=>e=.returned (.string (Dm (F1 A)))/\Below w w w':=by
 obtain⟨⟨a1,a2,U,-⟩,-⟩:=h
 have a3:=U.cell (j:=4) rfl
 have W:=Zaa (Afm s r l V hlen A Bv T Y a c D G F w O hC J)
 go_enter func135,ntmps135
 go_wp2_with fail
 refine W.out.mono ?_
 rintro e a0 ⟨rfl,aa⟩
 exact Z0F
end
section
open Tryz Go.RowKit Go.Shelf
theorem Ng {P:Program} (w:zN) (F A J:TypeId) (r clock:Nat) (es:Array MapEntry) (k:Int) (val:Value) (hm:P.underlying F=some (.map A J)) (D:P.underlying A=some (.int .u8)) (U:w.heap[r]? =some (.map es clock))
  (H:Instr.findNow (.int .u8) (.int .u8 k) es.toList 0=some none):
  (Instr.mapUpdate F (.map (some r)) (.int .u8 k) val).run P w=.ok () (w.putObj r (.map (es.push {key:=.int .u8 k,val:=val,born:=clock}) (clock+1))):=by
 have G:(Instr.checkKey false 10000 A (.int .u8 k)).run P w=.ok () w:=Zfv (k:=.int .u8 k) D (by simp[MapKept.IsKey]) false 9999
 simp[Instr.mapUpdate,Zig hm,MapKept.run_getObj_map U,G,Zfw D H,MapKept.run_setObj_map _ U,Result.andThen,World.putObj]
theorem Rs:∃D F,prog.underlying 208=some (.map D F)/\D=5/\F=210:=by
 have h:(prog.underlying 208).map (fun d=>match d with | .map k e=>some (k,e) | _=>none)=some (some (5,210)):=yG;cases A:prog.underlying 208 with
 | none=>rw[A]at h;cases h
 | some d=>
  rw[A]at h;cases d with
  | map k e=>simp only[Zaj,Zbb,Zgr]at h;exact⟨k,e,rfl,h.1,h.2⟩
  | _=>simp at h
def Tg (b:Nat):Array MapEntry:=#[{key:=.int .u8 1,val:=.func (.func 134) #[] #[zK b,zK (b+1)],born:=0},
 {key:=.int .u8 2,val:=.func (.func 136) #[] #[zK b,zK (b+1)],born:=1},
 {key:=.int .u8 3,val:=.func (.func 138) #[] #[zK b,zK (b+1)],born:=2}]
structure Aq0 (w:zN) (b b6:Nat) (fH:Value) (m:Nat):Prop where
 map:∃clock,w.heap[m]? =some (.map (Tg b) clock)
 run:Ar w b 105 [zK b6]
 Bv:Ar w (b+1) 85 [fH]
theorem Akq (w:zN) (a0:Nat) (a3:zO) (V a4:Nat):
  Calls prog 103 #[zK a0,.slice a3 V a4] w fun e w'=>e=.returned (.map (some (w.heap.size+2)))/\Aq0 w' w a0 (.slice a3 V a4) (w+2)/\w'.heap.size=w+3/\Below w w w':=by
 obtain⟨ar,au,hm,rfl,rfl⟩:=Rs
 have W:prog.underlying 5=some (.int .u8):=yG
 have af:=fun(w:zN)=>run_makeMap_plain (P:=prog) w 208
 obtain⟨A,aq,a1,a9,Y,ae⟩:=Fk w [zK a0] [.slice a3 V a4] 105 85
 have H:Below A A (A.alloc (.map #[] 0)):=Bq _ _
 have J:=Zhe A (.map #[] 0)
 have a5:(A.alloc (.map #[] 0)).heap.size=A.heap.size+1:=yF
 have ad:=af A
 rw[ae]at J a5 ad
 have a2:=a1.below H a1.lt
 have a7:=a9.below H a9.lt
 have M:=Y.trans (H.mono Y.size)
 clear af
 generalize A.alloc (.map #[] 0)=D at H J a5 a2 a7 M ad
 have ap:(Instr.mapUpdate 208 (.map (some (w.heap.size+2))) (.int .u8 1) (.func (.func 134) #[] #[zK w,zK (w+1)])).run prog D=.ok () (D.putObj (w+2) (.map #[{key:=.int .u8 1,val:=.func (.func 134) #[] #[zK w,zK (w+1)],born:=0}] 1)):=Ng (P:=prog) D 208 _ _ (w+2) 0 _ 1 _ hm W J rfl
 have U:=Zhk (o:=.map #[{key:=.int .u8 1,val:=.func (.func 134) #[] #[zK w,zK (w+1)],born:=0}] 1) (Zbx.1 J).1
 have a6:D.grownBy (D.putObj (w+2) (.map #[{key:=.int .u8 1,val:=.func (.func 134) #[] #[zK w,zK (w+1)],born:=0}] 1)) (some (w.heap.size+2)):=Zhx _ _ _
 have ag:(D.putObj (w+2) (.map #[{key:=.int .u8 1,val:=.func (.func 134) #[] #[zK w,zK (w+1)],born:=0}] 1)).heap.size=D.heap.size:=vK
 generalize D.putObj (w+2) (.map #[{key:=.int .u8 1,val:=.func (.func 134) #[] #[zK w,zK (w+1)],born:=0}] 1)=F at ap U a6 ag
 have aj:(Instr.mapUpdate 208 (.map (some (w.heap.size+2))) (.int .u8 2) (.func (.func 136) #[] #[zK w,zK (w+1)])).run prog F=.ok () (F.putObj (w+2) (.map #[{key:=.int .u8 1,val:=.func (.func 134) #[] #[zK w,zK (w+1)],born:=0},{key:=.int .u8 2,val:=.func (.func 136) #[] #[zK w,zK (w+1)],born:=1}] 2)):=Ng (P:=prog) F 208 _ _ (w+2) 1 _ 2 _ hm W U rfl
 have O:=Zhk (o:=.map #[{key:=.int .u8 1,val:=.func (.func 134) #[] #[zK w,zK (w+1)],born:=0},{key:=.int .u8 2,val:=.func (.func 136) #[] #[zK w,zK (w+1)],born:=1}] 2) (Zbx.1 U).1
 have a8:F.grownBy (F.putObj (w+2) (.map #[{key:=.int .u8 1,val:=.func (.func 134) #[] #[zK w,zK (w+1)],born:=0},{key:=.int .u8 2,val:=.func (.func 136) #[] #[zK w,zK (w+1)],born:=1}] 2)) (some (w.heap.size+2)):=Zhx _ _ _
 have ai:(F.putObj (w+2) (.map #[{key:=.int .u8 1,val:=.func (.func 134) #[] #[zK w,zK (w+1)],born:=0},{key:=.int .u8 2,val:=.func (.func 136) #[] #[zK w,zK (w+1)],born:=1}] 2)).heap.size=F.heap.size:=vK
 generalize F.putObj (w+2) (.map #[{key:=.int .u8 1,val:=.func (.func 134) #[] #[zK w,zK (w+1)],born:=0},{key:=.int .u8 2,val:=.func (.func 136) #[] #[zK w,zK (w+1)],born:=1}] 2)=G at aj O a8 ai
 have an:(Instr.mapUpdate 208 (.map (some (w.heap.size+2))) (.int .u8 3) (.func (.func 138) #[] #[zK w,zK (w+1)])).run prog G=.ok () (G.putObj (w+2) (.map #[{key:=.int .u8 1,val:=.func (.func 134) #[] #[zK w,zK (w+1)],born:=0},{key:=.int .u8 2,val:=.func (.func 136) #[] #[zK w,zK (w+1)],born:=1},{key:=.int .u8 3,val:=.func (.func 138) #[] #[zK w,zK (w+1)],born:=2}] 3)):=Ng (P:=prog) G 208 _ _ (w+2) 2 _ 3 _ hm W O rfl
 have ac:=Zhk (o:=.map #[{key:=.int .u8 1,val:=.func (.func 134) #[] #[zK w,zK (w+1)],born:=0},{key:=.int .u8 2,val:=.func (.func 136) #[] #[zK w,zK (w+1)],born:=1},{key:=.int .u8 3,val:=.func (.func 138) #[] #[zK w,zK (w+1)],born:=2}] 3) (Zbx.1 O).1
 have aa:G.grownBy (G.putObj (w+2) (.map #[{key:=.int .u8 1,val:=.func (.func 134) #[] #[zK w,zK (w+1)],born:=0},{key:=.int .u8 2,val:=.func (.func 136) #[] #[zK w,zK (w+1)],born:=1},{key:=.int .u8 3,val:=.func (.func 138) #[] #[zK w,zK (w+1)],born:=2}] 3)) (some (w.heap.size+2)):=Zhx _ _ _
 have ah:(G.putObj (w+2) (.map #[{key:=.int .u8 1,val:=.func (.func 134) #[] #[zK w,zK (w+1)],born:=0},{key:=.int .u8 2,val:=.func (.func 136) #[] #[zK w,zK (w+1)],born:=1},{key:=.int .u8 3,val:=.func (.func 138) #[] #[zK w,zK (w+1)],born:=2}] 3)).heap.size=G.heap.size:=vK
 generalize G.putObj (w+2) (.map #[{key:=.int .u8 1,val:=.func (.func 134) #[] #[zK w,zK (w+1)],born:=0},{key:=.int .u8 2,val:=.func (.func 136) #[] #[zK w,zK (w+1)],born:=1},{key:=.int .u8 3,val:=.func (.func 138) #[] #[zK w,zK (w+1)],born:=2}] 3)=ab at an ac aa ah
 have T:=Bn (Bn a6 a8) aa
 have ao:=a2.grown T yF
 have am:=a7.grown T yF
 have ak:Below w w ab:=M.grown T M.size (fun r e=>yM)
 have al:ab.heap.size=w+3:=yE
 clear J U O a6 a8 aa T ae a5 ag ai ah a2 a7 a1 a9 Y H M
 go_enter func103,ntmps103
 go_wp2_with fail
 go_ret
 exact⟨rfl,⟨⟨3,ac⟩,ao,am⟩,al,ak⟩
end
section
open Tryz Go.RowKit Go.Shelf
theorem Bt.Mz {w:zN} {P:zT} {lo D mt F lb A:Nat} {s0 s1 s2:Value} {st:Bb} (h:Bt w P lo D mt F lb A s0 s1 s2 st):D<w/\mt<w/\lb<w/\F<w/\A<w:=by
 obtain⟨_,_,U,_⟩:=h.box;refine⟨U.lt,h.Ny.lt,?_,?_,?_⟩
 ·obtain⟨_,_,_,_,G⟩:=h.store.box;exact(G.lt lb rfl).2
 ·obtain⟨_,_,_,U,_⟩:=h.store.box;exact U.lt
 obtain⟨_,_,hm⟩:=h.store.map;exact(Zbx.1 hm).1
theorem Bt.more {w w':zN} {P:zT} {lo M mt T lb J:Nat} {s0 s1 s2:Value} {st:Bb} (h:Bt w P lo M mt T lb J s0 s1 s2 st) (g:Below w w w'):Bt w' (fun k=>P k\/w.heap.size<=k/\k<w'.heap.size) lo M mt T lb J s0 s1 s2 st:=by
 obtain⟨l1,l2,a1,a2,a3⟩:=h.Mz;have Y:∀D,Au D6 lo 77 4 w st.A5 D->∀k,D.ownBlock=some k->k<w.heap.size:=fun D he k A=>(he.lt k A).2
 obtain⟨⟨H,D,U,V,he,F⟩,W,hm,hw,O,a0⟩:=h;have G:=Bt.below ⟨⟨H,D,U,V,he,F⟩,W,hm,hw,O,a0⟩ g;refine⟨⟨H,D,U.below g U.lt,Dr.Ab.wide (Dr.Ab.block V fun b U=>g.block b U.1) (fun b U=>⟨Zal U.1 g.size,U.2.1,U.2.2.1,U.2.2.2.1,U.2.2.2.2.1,fun hp=>hp.elim U.2.2.2.2.2 (fun h=>by have:=U.1;omega)⟩),he.below D6.Ab g (Zab _),fun k A=>⟨fun hp=>?_,(F k A).2⟩⟩,
  G.store,G.Ny,⟨fun hp=>hp.elim hw.1 (fun h=>yE),fun hp=>hp.elim hw.2.1 (fun h=>yE),fun hp=>hp.elim hw.2.2.1 (fun h=>yE),hw.2.2.2⟩,fun k A=>A.elim (fun h=>Zal (O k h) g.size) (fun h=>h.2),G.lo⟩
 have:=Y D he k A;exact hp.elim (F k A).1 (fun h=>yE)
theorem Bt.Gz {w:zN} {P Q:zT} {lo G mt H lb F:Nat} {s0 s1 s2:Value} {st:Bb} (h:Bt w P lo G mt H lb F s0 s1 s2 st) (A:∀k,Q k->P k):Bt w Q lo G mt H lb F s0 s1 s2 st:=by
 obtain⟨⟨M,Y,U,W,he,J⟩,O,hm,hw,V,a0⟩:=h;exact⟨⟨M,Y,U,Dr.Ab.wide W fun b U=>⟨U.1,U.2.1,U.2.2.1,U.2.2.2.1,U.2.2.2.2.1,fun T=>U.2.2.2.2.2 (A b T)⟩,he,fun k D=>⟨fun hp=>(J k D).1 (A k hp),(J k D).2⟩⟩,O,hm,⟨fun hp=>hw.1 (A _ hp),fun hp=>hw.2.1 (A _ hp),fun hp=>hw.2.2.1 (A _ hp),hw.2.2.2⟩,fun k D=>V k (A k D),a0⟩
theorem Bt.Aiq {w w':zN} {P:zT} {lo H mt M lb G:Nat} {s0 s1 s2:Value} {st:Bb} (h:Bt w P lo H mt M lb G s0 s1 s2 st) {l u:Int} (A:w.grownBy w' (some mt)) (a3:Ar w' mt 152 (Oj l u)):Bt w' P lo H mt M lb G s0 s1 s2 {st with left:=l,used:=u}:=by
 obtain⟨l1,l2,a0,a1,a2⟩:=h.Mz;obtain⟨⟨F,T,U,a7,he,O⟩,W,hm,hw,Y,a8⟩:=h;obtain⟨ac,ad,aa,a9,af,ae,ab,a5,a4,a6⟩:=id hw;have J:A8 (fun k=>k<w/\k≠mt) w w':=A8.G0 A fun k D=>⟨D.1,by simpa using D.2⟩
 refine⟨⟨F,T,J.box U ⟨U.lt,a9⟩,Dr.Ab.wide (Dr.Ab.block a7 fun b U=>J.block b ⟨U.1,U.2.2.1⟩) (fun b U=>⟨Zal U.1 A.size,U.2⟩),?_,O⟩,W.C4 J ⟨a1,fun e=>a5 e.symm⟩ ⟨a0,fun e=>a4 e.symm⟩ ⟨a2,fun e=>a6 e.symm⟩,a3,hw,fun k D=>Zal (Y k D) A.size,Zag a8 A.size⟩;obtain⟨V,g1,g2,g3⟩:=he;refine⟨V,g1.grown A ?_,g2,g3⟩;cases F:T.ownBlock with
 | none=>exact .inl rfl
 | some k=>exact .inr (by have:=(O k F).2.2.1;simpa using this)
theorem Bt.stored {w w':zN} {P:zT} {lo M mt H lb G:Nat} {s0 s1 s2:Value} {st:Bb} (h:Bt w P lo M mt H lb G s0 s1 s2 st) {y:Nat} (A:w.grownBy w' (some lb)) (Y:G5 w' H lb G y):Bt w' P lo M mt H lb G s0 s1 s2 {st with x:=y}:=by
 obtain⟨l1,l2,a6,a7,a8⟩:=h.Mz;obtain⟨⟨F,T,U,a1,he,O⟩,a4,hm,hw,W,a2⟩:=h;obtain⟨ac,ad,a5,ae,af,a3,ab,a9,a0,aa⟩:=id hw;have J:A8 (fun k=>k<w/\k≠lb) w w':=A8.G0 A fun k D=>⟨D.1,by simpa using D.2⟩
 refine⟨⟨F,T,J.box U ⟨U.lt,a3⟩,Dr.Ab.wide (Dr.Ab.block a1 fun b U=>J.block b ⟨U.1,U.2.2.2.1⟩) (fun b U=>⟨Zal U.1 A.size,U.2⟩),?_,O⟩,Y,J.box hm ⟨l2,a0⟩,hw,fun k D=>Zal (W k D) A.size,Zag a2 A.size⟩;obtain⟨V,g1,g2,g3⟩:=he;refine⟨V,g1.grown A ?_,g2,g3⟩;cases F:T.ownBlock with
 | none=>exact .inl rfl
 | some k=>exact .inr (by have:=(O k F).2.2.2.2.1;simpa using this)
theorem Bt.Am5 {w w':zN} {P:zT} {lo G mt H lb D:Nat} {s0 s1 s2:Value} {st:Bb} (h:Bt w P lo G mt H lb D s0 s1 s2 st) (F:w.grownBy w' (some mt)):A8 P w w':=
 A8.G0 F fun k A=>⟨h.low k A,fun e=>h.own.2.1 (by cases e;exact A)⟩
theorem Bt.Arl {w w':zN} {P:zT} {lo G mt H lb D:Nat} {s0 s1 s2:Value} {st:Bb} (h:Bt w P lo G mt H lb D s0 s1 s2 st) (F:w.grownBy w' (some lb)):A8 P w w':=
 A8.G0 F fun k A=>⟨h.low k A,fun e=>h.own.2.2.1 (by cases e;exact A)⟩
def Aci:Nat->FuncId
 | 1=>134
 | 2=>136
 | _=>138
theorem P5 (w:zN) (b m clock k:Nat) (A:k=1\/k=2\/k=3) (h:w.heap[m]? =some (.map (Tg b) clock)):
  (Instr.lookup 208 (.map (some m)) (.int .u8 k) false).run prog w=.ok (.func (.func (Aci k)) #[] #[zK b,zK (b+1)]) w:=by
 obtain⟨D,F,hm,rfl,rfl⟩:=Rs
 have a7:prog.underlying 5=some (.int .u8):=yG
 have kS:(getObj m).run prog w=.ok (.map (Tg b) clock) w:=by simp[getObj,Sem.run,h]
 have aw:∀em (k:Int),(Instr.checkKey em 10000 5 (.int .u8 k)).run prog w=.ok () w:=fun em k=>Zfv (k:=.int .u8 k) a7 (by simp[MapKept.IsKey]) em 9999
 rcases A with rfl | rfl | rfl
 ·show(Instr.lookup 208 (.map (some m)) (.int .u8 1) false).run prog w=_
  have cv:Instr.findNow (.int .u8) (.int .u8 1) (Tg b).toList 0=some (some (0,.func (.func (Aci 1)) #[] #[zK b,zK (b+1)])):=rfl;exact Z1L
 ·show(Instr.lookup 208 (.map (some m)) (.int .u8 2) false).run prog w=_
  have cv:Instr.findNow (.int .u8) (.int .u8 2) (Tg b).toList 0=some (some (1,.func (.func (Aci 2)) #[] #[zK b,zK (b+1)])):=rfl;exact Z1L
 show(Instr.lookup 208 (.map (some m)) (.int .u8 3) false).run prog w=_
 have cv:Instr.findNow (.int .u8) (.int .u8 3) (Tg b).toList 0=some (some (2,.func (.func (Aci 3)) #[] #[zK b,zK (b+1)])):=rfl
 exact Z1L
end
section
open Tryz Go.RowKit Go.Shelf
def Ii:List Nl:=[⟨false,false,Rn⟩,⟨false,false,No⟩]
def Tc:List Nl:=[⟨false,true,qR⟩]
theorem Ai2:firstM Ii [] 1 0=none:=yG
theorem Abp:firstM Ii [120] 2 0=none:=yG
theorem An3:firstM Ii [120,121] 3 0=some (0,0,2):=yG
theorem Abr:firstM Ii [97] 2 0=none:=yG
theorem Abq:firstM Ii [97,98] 3 0=none:=yG
theorem Ap6:firstM Ii [97,98,99] 4 0=none:=yG
theorem Ap5:firstM Ii [97,98,99,100] 5 0=none:=yG
theorem Ap4:firstM Ii [99,100] 3 0=none:=yG
theorem Ap3:firstM Ii [99,100,101] 4 0=none:=yG
theorem Ap2:firstM Ii [122] 2 0=none:=yG
theorem An2:firstM Ii [122,122] 3 0=some (1,0,2):=yG
theorem Ap1:firstM Tc [] 1 0=none:=yG
theorem Ap0:firstM Tc [97,98] 3 0=none:=yG
theorem Apz:firstM Tc [97,98,113] 4 0=some (0,2,3):=yG
theorem Aop:Told Rn:=⟨Xy,by
 simp only[Rn,gxR,xR,yR,Tree.pre,Tree.Dw,Zdk,Zas,Zau,Zed,Tree.Cx,Tree.Ak];decide⟩
theorem Aoo:Told No:=⟨Rm,by
 simp only[No,zR,Tree.pre,Tree.Dw,Zdk,Zas,Zau,Zed,Tree.Cx,Tree.Ak];decide⟩
theorem Aoq:Told qR:=⟨Aa1,by
 simp only[qR,Tree.pre,Tree.Dw,Zed,Tree.Cx,Tree.Ak];decide⟩
theorem Af7:∀x∈Ii,F3 x.Bu/\Told x.Bu:=by
 simp only[Ii,Zed];exact⟨⟨Z7,Aop⟩,⟨Aj5,Aoo⟩,yF⟩
theorem Af6:∀x∈Tc,F3 x.Bu/\Told x.Bu:=by
 simp only[Tc,Zed];exact⟨⟨Ae5,Aoq⟩,yF⟩
theorem Aqh:De [120,121] Rn 0 0=[2]:=yG
theorem Aqg:De [122,122] No 0 0=[2]:=yG
theorem Aqi:De [113] qR 0 0=[1]:=yG
theorem Aol:Gw [120,121] Rn 0 0 2 (List.replicate Rn.B3 (-1,-1))=[(0,1)]:=yG
theorem Aok:Gw [122,122] No 0 0 2 (List.replicate No.B3 (-1,-1))=[]:=yG
theorem Aom:Gw [113] qR 0 0 1 (List.replicate qR.B3 (-1,-1))=[]:=yG
theorem Aql:Lv [120,121] [(0,1)]=[⟨#[120,121]⟩,⟨#[120]⟩]:=yG
theorem Aqk:Lv [122,122] []=[⟨#[122,122]⟩]:=yG
theorem Aqm:Lv [113] []=[⟨#[113]⟩]:=yG
def Ub:Nat:=4611686018427387904
theorem Xq:B7 0=0:=yG
theorem Afd:B7 F8=F8:=yG
theorem Aoa:B7 Ub=Ub:=yG
theorem Aj1:Lq .add (B7 0) F8=F8:=yG
theorem Aj0:Lq .add (B7 F8) F8=Ub:=yG
end
section
open Tryz Go.RowKit Go.Shelf
theorem Aji (w:zN) (m x:Nat) (F:x<2^64/\D1 x=true) (J:B7 x<2^64) (cs:zP) (hm:m<=w) (D:Ch w m Nd cs):Pg w m cs x (B7 x):=by
 have M:∀X,Below m w X->Ch X m Nd cs:=fun X A=>Cz.Ab.below D A
 obtain⟨a,c,rfl,-,-⟩:=Tree.A6.open D;exact⟨fun X A=>Tf Nd _ X m yH (Zag hm A.size) (M X A) Qk,fun X U T V k A W G H O=>T5 X k x F 0 0 a 0 c U T V G H O,J,⟨9,0,Cq,0,a,0,c,rfl⟩⟩
theorem Ajj (w:zN) (m x:Nat) (G:x<2^64/\D1 x=true) (T:B7 x<2^64) (hy:Lq .add (B7 x) F8<2^64) (cs:zP) (hm:m<=w) (D:Ch w m Sv cs):Pg w m cs x (Lq .add (B7 x) F8):=by
 have Y:∀X,Below m w X->Ch X m Sv cs:=fun X A=>Cz.Ab.below D A
 obtain⟨a,c,rfl,J,h0 | ⟨b,o,rfl,U,F⟩⟩:=Tree.A6.open D
 ·cases h0
 obtain⟨d1,a1,a8⟩:=F 0 yH;obtain⟨d2,a5,a9⟩:=F 1 yH;obtain⟨a3,V,rfl,-,-⟩:=Tree.A6.open (l:=(⟨9,0,Cq,0⟩:Df)) (s:=[]) a8;obtain⟨a2,M,rfl,-,-⟩:=Tree.A6.open (l:=(⟨8,F8,⟨#[]⟩,0⟩:Df)) (s:=[]) a9;exact⟨fun X A=>Tf Sv _ X m yH (Zag hm A.size) (Y X A) Wm,fun X a6 a4 a7 k A W H O a0=>Aeb X k x G T 0 0 F8 yH ⟨#[]⟩ ⟨#[]⟩ 0 0 0 a3 a2 0 0 V M b o c J (Zal U W) (Aa a1 A U) (Aa a5 A U) a6 a4 a7 H O a0,hy,⟨2,0,⟨#[]⟩,0,some ⟨b,o,none⟩,2,c,rfl⟩⟩
end
section
open Tryz Go.RowKit Go.Shelf
def Bb.full (st:Bb):Bb:={st with left:=64}
def Bb.one (st:Bb):Bb:={st with left:=st.left - 1,used:=st.used+1}
def Bb.cut (st:Bb) (A n:Nat):Bb:={st with A5:=st.A5++[⟨A,st.low,(st.low:Int)+n,⟨#[]⟩⟩],Bd:=st.Bd.drop n,low:=st.low+n}
def Bb.J3 (st:Bb) (b:zS):Bb:={st with A5:=st.A5++[⟨1,0,0,b⟩]}
def Bb.lets (st:Bb) (y:Nat):Bb:={st with x:=y}
def Bb.goes (st:Bb) (i:Nat):Bb:={st with state:=i,Az:=0}
def Bb.ends (st:Bb) (k:Nat) (c:Int):Bb:={st with Ec:=k,Es:=c}
def Bb.byte (st:Bb) (c:UInt8):Bb:={st with Bd:=st.Bd++[c]}
def Bb.tick (st:Bb):Bb:={st with Az:=st.Az+1}
def Bb.over (st:Bb):Bb:={st with eof:=true}
theorem Us {w:zN} {S:zT} {t:Ex} {cs:zP} (h:Cz w S t cs):∃(D:Int) (F:Nat) (A:zS) (G:Int) (a:zO) (l c:Nat),cs=[.int .u8 D,.float .f64 F,.string A,.int .i64 G,.slice a l c]:=by
 obtain⟨l,s⟩:=t;obtain⟨a,c,rfl,-,-⟩:=Tree.A6.open h;exact⟨_,_,_,_,a,_,c,rfl⟩
theorem Ach (w:zN) (P:zT) (lo A mt F lb H:Nat) (s0 s1 s2:Value) (st:Bb) (h:Bt w P lo A mt F lb H s0 s1 s2 st) (b:Nat) (O:zO) (V:Nat) (Bv:List ByteArray) (a7:Ar w b 105 [zK A]) (hC:Ar w (b+1) 85 [.slice O Bv V]) (a:Dv) (cs:zP) (hA:C2 w (fun k=>k<w.heap.size) a cs)
  (ac:Bs w w 1 O (Bv.map fun x=>[.string x])) (s:Ap) (r:A7) (am:∀i p,a.Ay[i]? =some p->H9 s r a.Ay i p/\p.Bw.size<=10000) (hlen:a.Ay.length<=16) (D:List ByteArray) (ai:D.length=a.Ay) (ap:(F1 D).length<=512)
  (a5:∀X,Below w w X->∀k (h:k<a.Ay.length),Wo X X F (.slice O Bv V) Bv a.Ay[k] (D[k]'yE)) (a6:st.A5.length<=1000):
  Calls prog 134 #[.agg cs.toArray,zK b,zK (b+1)] w fun e w'=>e=.returned (.tuple #[])/\Bt w' P lo A mt F lb H s0 s1 s2 (st.J3 (Dm (F1 D)))/\A8 P w w':=by
 obtain⟨aA,es,rfl,a2,ah⟩:=hA
 obtain⟨aj,ab,a9,al,ag,ao,ae,rfl⟩:=Us ah
 obtain⟨a0,Y,rfl,-⟩:=id a2
 have W:=Zaa fun(X:zN) (U:Below w w X) (a3:Bt X P lo A mt F lb H s0 s1 s2 st)=>Akn X P lo A mt F lb H s0 s1 s2 st a3 s r a.Ay am hlen D Bv ai ap a0 Y O V ((Al.Ab Bz.Ab).mono ((Al.Ab Bz.Ab).below a2 U) U.size) ((ac.below U (Zab _)).mono U.size) (a5 X U)
 have ad:=Zaa fun(X:zN) (a3:Bt X P lo A mt F lb H s0 s1 s2 st)=>(show Calls prog 98 #[zK A,.agg #[.int .u8 1,zE,zE,.string (Dm (F1 D))]] X fun r w'=>r=.returned (.tuple #[])/\Bt w' P lo A mt F lb H s0 s1 s2 (st.J3 (Dm (F1 D)))/\A8 P X w' from Ae3 X P lo A mt F lb H s0 s1 s2 st a3 ⟨1,0,0,Dm (F1 D)⟩ a6)
 have av:=h.low
 clear ah a2 a5 ap ai ac am hlen a6
 generalize Dm (F1 D)=az at W ad|-
 generalize a.Ay=pl at W|-
 generalize Bv=a4 at W hC|-
 generalize(a.kind.toNat:Int)=an
 generalize a.name=ak
 simp only[Zas,Zau]at*
 obtain⟨a8,ay,hA1,aa,au⟩:=Bx w [.int .u8 an,ak,.slice a0 pl Y,.int .u8 aj,.float .f64 ab,a9,al,.slice ag ao ae] 120
 have fi:=a7.below aa a7.lt
 have dF:=hC.below aa hC.lt
 have h1:=h.below aa
 clear au
 go_enter func134,ntmps134
 go_upto_region 1 with fail
 refine Ce [(0,.inl (some 0)),(1,.inl (some 0)),(2,.inl none),(3,.inl (some 0)),(4,.inl (some 0)),(5,.inr ([],[0])),(6,.inl none),(7,.inr ([],[]))]
  (fun _ X=>Ar X b 105 [zK A]/\Ar X (b+1) 85 [.slice O a4 V]/\Ar X w 120 [.int .u8 an,ak,.slice a0 pl Y,.int .u8 aj,.float .f64 ab,a9,al,.slice ag ao ae]) [0] yG yG (fun _ _=>⟨fi.drewN 1,dF.drewN 1,hA1.drewN 1⟩) ?_
 refine Z4W ?_
 intro c8 h2 af iu dG hA2
 generalize a8.drewN 1=aq at c8 h2 af iu dG hA2|-
 refine Ba (.pointer (some ⟨A,0,none⟩)) yI (fun w' G=>?_) (fun K J=>?_)
 ·have a1:=G.1.cell (j:=0) rfl;go_simp
 (go_simp;refine J _ ?_;clear J K)
 refine Ba (.pointer (some ⟨A,0,none⟩)) yI (fun w' G=>?_) (fun K J=>?_)
 ·have a1:=G.1.cell (j:=0) rfl;go_simp
 (go_simp;refine J _ ?_;clear J K)
 refine Z2o ?_
 refine Ba (.slice a0 pl Y) yI (fun w' G=>?_) (fun K J=>?_)
 ·have a1:=G.2.2.cell (j:=2) rfl;go_simp
 (go_simp;refine J _ ?_;clear J K)
 refine Ba (.slice O a4 V) yI (fun w' G=>?_) (fun K J=>?_)
 ·have a1:=G.2.1.cell (j:=0) rfl;go_simp
 (go_simp;refine J _ ?_;clear J K)
 refine A1 rfl (fun K J=>?_)
 go_wp2_with fail
 refine(W.out aq af h2).mono ?_
 rintro e ar ⟨rfl,T⟩
 have h3:=h2.below T
 go_wp2_with fail
 refine J _ _ yF (fun _ _ M=>⟨M.1.below T M.1.lt,M.2.1.below T M.2.1.lt,M.2.2.below T M.2.2.lt⟩) ?_
 clear J K
 refine Z2o ?_
 refine A1 rfl (fun K J=>?_)
 go_wp2_with fail
 refine(ad.out ar h3).mono ?_
 rintro e ax ⟨rfl,h4,aw⟩
 go_wp2_with fail
 refine Z3y ?_
 clear J K
 refine B1 ?_
 go_wp2_with fail
 go_end0
 exact⟨rfl,h4,(A8.By af av).trans ((A8.By T h2.low).trans aw)⟩
theorem Aoh (w:zN) (P:zT) (lo D mt F lb M:Nat) (s0 s1 s2:Value) (st:Bb) (h:Bt w P lo D mt F lb M s0 s1 s2 st) (b:Nat) (H:zO) (a2:Nat) (Bv:List ByteArray) (az:Bv.length<=100) (aj:Ar w b 105 [zK D]) (hC:Ar w (b+1) 85 [.slice H Bv a2]) (a:Dv) (aE:a.name=Cq) (cs:zP) (hA:C2 w (fun k=>k<w) a cs)
  (ak:Bs w w 1 H (Bv.map fun x=>[.string x])) (aA:H=none->Bv=[]) (y:Nat) (hy:B7 y<2^64/\D1 (B7 y)=true) (ap:∀X cs,Below w w X->Ch X w a.Bw cs->Pg X w cs st.x y):
  Calls prog 138 #[.agg cs.toArray,zK b,zK (b+1)] w fun e w'=>e=.returned (.tuple #[])/\Bt w' P lo D mt F lb M s0 s1 s2 (st.lets (B7 y))/\A8 P w w':=by
 obtain⟨aI,es,rfl,am,ab⟩:=hA
 have al:=fun X (G:Below w w X)=>ap X es G (Cz.Ab.below ab G)
 obtain⟨a1,V,U,a3,a0,a4,Y,rfl⟩:=Us ab
 obtain⟨ad,ac,rfl,-⟩:=id am
 have a7:=Zaa fun(X:zN) (G:Below w w X) (ae:Bt X P lo D mt F lb M s0 s1 s2 st)=>Aa6 X w F lb M st.x y _ G.size ae.store (al X G) (Bv.map fun x=>[.string x]) H a2 (by simpa using az) ((ak.below G (Zab _)).mono G.size) (fun e=>by rw[aA e];rfl) (by
  intro u hu;simp only[Zfa,Zfb]at hu;obtain⟨l,⟨x,_,rfl⟩,hu⟩:=hu;simp only[Zbf]at hu;subst hu;rfl) (by
  intro u hu;simp only[Zfb]at hu;obtain⟨x,_,rfl⟩:=hu;rfl)
 rw[Zeq]at a7
 have ah:=Zaa fun(X:zN) (ae:Bt X P lo D mt F lb M s0 s1 s2 st)=>Afs X F lb M st.x (B7 y) hy ae.store
 simp only[Ake]at ah
 have aC:=h.low
 clear ab am ak ap al
 rw[aE]
 generalize a.Ay=pl
 generalize B7 y=aH at a7 ah|-
 generalize Bv=a9 at a7 hC|-
 generalize(a.kind.toNat:Int)=ag
 simp only[Zas,Zau]at*
 obtain⟨a8,aF,hA1,aa,ay⟩:=Bx w [.int .u8 ag,Cq,.slice ad pl ac,.int .u8 a1,.float .f64 V,U,a3,.slice a0 a4 Y] 120
 have fi:=aj.below aa aj.lt
 have dF:=hC.below aa hC.lt
 have h1:=h.below aa
 clear ay
 obtain⟨a6,an,ao,-⟩:=h1.box
 go_enter func138,ntmps138
 go_upto_region 1 with fail
 refine Ce [(0,.inl none),(1,.inl (some 0)),(2,.inl (some 0)),(3,.inl none),(4,.inl none),(5,.inl (some 0)),(6,.inl (some 0)),(7,.inr ([],[])),(8,.inl none),(9,.inl none),(10,.inl none),(11,.inl none),(12,.inl none)]
  (fun _ X=>Ar X b 105 [zK D]/\Ar X (b+1) 85 [.slice H a9 a2]/\Ar X w 120 [.int .u8 ag,Cq,.slice ad pl ac,.int .u8 a1,.float .f64 V,U,a3,.slice a0 a4 Y]/\X.cell? ⟨D,4,none⟩=some (.pointer (some ⟨F,0,none⟩))) [0] yG yG (fun _ _=>⟨fi.drewN 1,dF.drewN 1,hA1.drewN 1,(ao.drewN 1).cell (j:=4) rfl⟩) ?_
 refine Z4W ?_
 intro c8 h2 af iu dG hA2
 generalize a8.drewN 1=ar at c8 h2 af iu dG hA2|-
 refine Z2o ?_
 refine Gx (v:=.agg ([.int .u8 a1,.float .f64 V,U,a3,.slice a0 a4 Y]:List Value).toArray) rfl (fun W aw=>B6 118 _ rfl w.heap.size 3 rfl [.int .u8 a1,.float .f64 V,U,a3,.slice a0 a4 Y] (fun j v a6=>by have:=aw.2.2.1.range (3+j) v (by simpa[Nat.add_comm]using a6);rwa[Zac]at this) yG yG) ?_
 refine Ba (.pointer (some ⟨D,0,none⟩)) yI (fun w' A=>?_) (fun K J=>?_)
 ·have T:=A.1.cell (j:=0) rfl;go_simp
 (go_simp;refine J _ ?_;clear J K)
 refine Z3t ?_
 refine Ba (.pointer (some ⟨F,0,none⟩)) yI (fun w' A=>?_) (fun K J=>?_)
 ·have T:=A.2.2.2;go_simp
 (go_simp;refine J _ ?_;clear J K)
 refine Ba (.slice H a9 a2) yI (fun w' A=>?_) (fun K J=>?_)
 ·have T:=A.2.1.cell (j:=0) rfl;go_simp
 (go_simp;refine J _ ?_;clear J K)
 refine A1 rfl (fun K J=>?_)
 go_wp2_with fail
 refine(a7.out ar af h2).mono ?_
 rintro e a5 ⟨rfl,O⟩
 have h3:=h2.below O
 have aD:=iu.below O iu.lt
 have ax:=dG.below O dG.lt
 have hA3:=hA2.below O hA2.lt
 go_wp2_with fail
 refine Z4v ?_
 clear J K
 refine Z46 ?_
 refine B1 ?_
 clear ao a6 an
 obtain⟨a6,an,aB,-⟩:=h3.box
 go_upto_region 2 with fail
 refine Ce [(0,.inl (some 0)),(1,.inl none),(2,.inl none),(3,.inl (some 0)),(4,.inl none),(5,.inl (some 0)),(6,.inl none),(7,.inl none),(8,.inr ([],[]))]
  (fun _ X=>Ar X b 105 [zK D]/\Ar X (b+1) 85 [.slice H a9 a2]/\Ar X w 120 [.int .u8 ag,Cq,.slice ad pl ac,.int .u8 a1,.float .f64 V,U,a3,.slice a0 a4 Y]/\X.cell? ⟨D,4,none⟩=some (.pointer (some ⟨F,0,none⟩))) [0] yG yG (fun _ _=>⟨aD.drewN 1,ax.drewN 1,hA3.drewN 1,(aB.drewN 1).cell (j:=4) rfl⟩) ?_
 refine Z09 ?_
 have ai:Below a5 a5 (a5.drewN 1):=Bk (Zai _ _) 1 (Zab _)
 have h4:=h3.below ai
 generalize a5.drewN 1=au at ai h4|-
 refine Ba (.pointer (some ⟨D,0,none⟩)) yI (fun w' A=>?_) (fun K J=>?_)
 ·have T:=A.1.cell (j:=0) rfl;go_simp
 (go_simp;refine J _ ?_;clear J K)
 refine Z3t ?_
 refine Ba (.pointer (some ⟨F,0,none⟩)) yI (fun w' A=>?_) (fun K J=>?_)
 ·have T:=A.2.2.2;go_simp
 (go_simp;refine J _ ?_;clear J K)
 refine Z2o ?_
 refine Ba (.string Cq) yI (fun w' A=>?_) (fun K J=>?_)
 ·have T:=A.2.2.1.cell (j:=1) rfl;go_simp
 (go_simp;refine J _ ?_;clear J K)
 refine Z3t ?_
 refine A1 rfl (fun K J=>?_)
 go_wp2_with fail
 refine(ah.out au h4).mono ?_
 rintro e aG ⟨rfl,av,aq⟩
 go_wp2_with fail
 refine Z4v ?_
 clear J K
 refine B1 ?_
 go_wp2_with fail
 go_end0
 exact⟨rfl,h4.stored aq av,(A8.By af aC).trans ((A8.By O h2.low).trans ((A8.By ai h3.low).trans (h4.Arl aq)))⟩
end
section
open Tryz Go.RowKit Go.Shelf
theorem Ue {w:zN} {S:zT} {t:Rx} {cs:zP} (h:B2 w S t cs):∃(F G A H M J D:Int) (a:zO) (l c:Nat),cs=[.int .u8 F,.int .u64 G,.int .u64 A,.int .u64 H,.int .u64 M,.int .i64 J,.int .i64 D,.slice a l c]:=by
 obtain⟨l,s⟩:=t;obtain⟨a,c,rfl,-,-⟩:=Tree.A6.open h;exact⟨_,_,_,_,_,_,_,a,_,c,rfl⟩
structure J0 (dd:List A7):Prop where
 Fm:dd.length<=60
 kinds:∀r∈dd,(r.kind=1->r.Bu.size<=10000)/\(r.kind=2->r.text=⟨#[122,122]⟩)
 Xi:∀x∈Eg dd,F3 x.Bu/\Told x.Bu
theorem Ku {w:zN} {P:zT} {s:Ap} {s0 s1 s2:Value} (T:A0 w P s [s0,s1,s2]) {i:Nat} {x:Bc} (F:s.Ac[i]? =some x):
  ∃(G:zO) (H b o A:Nat) (D:zO) (rc:Nat),s0=.int .i64 s.Aj/\s1=.slice G s.An H/\s2=.slice (some ⟨b,o,none⟩) s.Ac A/\s.Ac<=A/\P b/\w.rangeAt b (o+i*2) [x.name,.slice D x.Ai rc]/\Al Bj 16 w P x.Ai (.slice D x.Ai rc):=by
 obtain⟨v,u,e,⟨G,H,rfl,-⟩,⟨Y,A,rfl,W,h0 | ⟨b,o,rfl,U,V⟩⟩⟩:=T
 ·rw[h0]at F;cases F
 simp only[Zdm,Zhm]at e
 obtain⟨rfl,rfl,rfl⟩:=e
 obtain⟨O,rfl⟩:=Zeg.1 F
 obtain⟨cs,M,a0,rfl,J⟩:=V i O
 obtain⟨D,rc,rfl,-⟩:=id J
 exact⟨G,H,b,o,A,D,rc,rfl,rfl,rfl,W,U,M,J⟩
theorem Md {w:zN} {P:zT} {st:Bb} {H mt lb:Nat} {J F:Value} (G:Dr w (fun b=>b<w/\b≠H/\b≠mt/\b≠lb/\some b≠J.ownBlock/\¬P b) st.Bd F):∃D A,F=.slice D st.Bd A/\Kn w w st.Bd (.slice D st.Bd A):=by
 obtain⟨D,A,rfl,h⟩:=id G;exact⟨D,A,rfl,Dr.Ab.wide G fun b U=>U.1⟩
theorem Yp (s:Ap) (w:zN) (P:zT) (lo G mt a1 lb ad:Nat) (s0 s1 s2:Value) (st:Bb) (h:Bt w P lo G mt a1 lb ad s0 s1 s2 st) (Y:A0 w P s [s0,s1,s2]) (x:Bc) (A:s.Ac[st.state]? =some x) (gl:J0 x.Ai) (y9:st.Bd.length<=512) (aq:firstM (Eg x.Ai) st.Bd (st.Bd+1) 0=none) (ai:st.eof=false):
  Calls prog 64 #[zK G] w fun e w'=>e=.returned (.tuple #[])/\Below w w w':=by
 obtain⟨aj,ak,b,o,a0,fp,rc,rfl,rfl,rfl,ar,an,a8,bl⟩:=Ku Y A
 have ae:=(Zeg.1 A).1
 obtain⟨⟨au,ao,U,a3,he,am⟩,-⟩:=id h
 obtain⟨ef,aw,rfl,nf⟩:=Md a3
 have o0:=h.low
 have av:=U.lt
 have af:=o0 b an
 clear a3 he am
 rw[ai]at U
 refine Z44 ?_
 intro c8 bd0 bsp blc bp
 clear Y A bl nf ae gl
 generalize a2:s.Ac=a5 at U ar blc bp|-
 have ax:=Zaa a2
 clear a2
 go_enter func64,ntmps64
 go_upto_region 0 with fail
 refine Ce [(0,.inl none),(1,.inl none),(2,.inl none),(3,.inl none),(4,.inl (some 0)),(5,.inl none),(6,.inl none),(7,.inl none),(8,.inl (some 0)),(9,.inl none),(10,.inl (some 0)),(11,.inr ([],[])),(12,.inl none),(13,.inl none),(14,.inl none),(15,.inl none),(16,.inl none)]
  (fun _ X=>Ar X G 107 [s.Aj,.slice aj s.An ak,.slice (some ⟨b,o,none⟩) a5 a0,st.state,zK a1,.slice ef st.Bd aw,st.low,st.Az,zA,zK mt,ao,.int .u8 st.Ec,st.Es]/\X.rangeAt b (o+st.state*2) [x.name,.slice fp x.Ai rc]) [0] yG yG (fun _ _=>⟨U.drewN 1,Aa a8 c8 af⟩) ?_
 refine Z09 ?_
 have D:=U.drewN 1
 generalize w.drewN 1=a9 at c8 D|-
 iterate 4 (refine Ah (fun K J=>?_);go_simp;refine J _ ?_;clear J K)
 refine Ba (.slice (some ⟨b,o,none⟩) a5 a0) yI (fun w' F=>?_) (fun K J=>?_)
 ·have ag:=F.1.cell (j:=2) rfl;go_simp
 (go_simp;refine J _ ?_;clear J K)
 refine Z3x ?_
 refine Ba (.int .i64 st.state) yI (fun w' F=>?_) (fun K J=>?_)
 ·have ag:=F.1.cell (j:=3) rfl;go_simp
 (go_simp;refine J _ ?_;clear J K)
 refine Z2o ?_
 refine Gx (v:=.agg ([x.name,.slice fp x.Ai rc]:List Value).toArray) rfl (fun W bm=>B6 37 _ rfl b (o+st.state*2) rfl [x.name,.slice fp x.Ai rc] bm.2 yG yG) ?_
 refine A1 rfl (fun K J=>?_)
 go_wp2_with fail
 refine(bd0.out a9 c8).mono ?_
 rintro e aa ⟨cz,aE,rfl,M,hA2,T⟩
 have H:=c8.trans (T.mono c8.size)
 have O:=D.below T D.lt
 have ah:=Zaa M
 obtain⟨aC,lc,rfl,-⟩:=id M
 obtain⟨aA,ac,rfl,-⟩:=id hA2
 have aB:=Zaa hA2
 clear M hA2
 go_wp2_with fail
 refine Z4v ?_
 clear J K
 refine Z53 ?_
 have al:=Zaa (bsp.out aa H _ ah.out)
 have ap:=O.cell (j:=5) rfl
 go_wp2_with fail
 refine al.out.mono ?_
 rw[aq]
 rintro e ab ⟨rfl,V⟩
 have a6:=H.trans (V.mono H.size)
 have a4:=O.below V O.lt
 simp only[Xh,Zgn]
 clear ap
 have aD:=a4.lt
 have ay:=a4.cell (j:=8) rfl
 go_wp2_with fail
 go_end0
 exact⟨rfl,a6.trans ((Bq ab _).mono a6.size)⟩
theorem Wg (s:Ap) (w:zN) (P:zT) (lo A mt F lb D:Nat) (s0 s1 s2:Value) (st:Bb) (h:Bt w P lo A mt F lb D s0 s1 s2 st) (V:A0 w P s [s0,s1,s2]) (x:Bc) (O:s.Ac[st.state]? =some x) (a2:J0 x.Ai) (a7:st.Bd.length<=512) (a6:firstM (Eg x.Ai) st.Bd (st.Bd+1) 0=none) (W:st.eof=false):
  Calls prog 34 #[zK A] w fun e w'=>e=.returned (.tuple #[])/\Bt w' P lo A mt F lb D s0 s1 s2 (st.goes st.state)/\A8 P w w':=by
 have a5:=Zaa fun(X:zN) (a4:Bt X P lo A mt F lb D s0 s1 s2 (st.goes st.state)) (a3:A0 X P s [s0,s1,s2])=>Yp s X P lo A mt F lb D s0 s1 s2 (st.goes st.state) a4 a3 x O a2 a7 a6 W
 obtain⟨⟨a9,aa,U,a0,he,Y⟩,-⟩:=id h
 have ab:=U.cell (j:=7) rfl
 have f7:=U.frozen 7
 have J:=As w A 7 (.int .i64 0)
 have a1:=U.set 7 (.int .i64 0)
 have G:=h.kept J
 have h1:=h.U1 (st.goes st.state) he Y J rfl rfl rfl rfl a1 a0
 have M:=A0.Ab.block V fun b U=>G.block b U
 go_enter func34,ntmps34
 go_wp2_with fail
 generalize w.setCell ⟨A,7,none⟩ (.int .i64 0)=T at h1 M G|-
 refine(a5.out T h1 M).mono ?_
 rintro e a8 ⟨rfl,H⟩
 go_wp2_with fail
 go_end0
 exact⟨rfl,h1.below H,G.trans (A8.By H h1.low)⟩
end
section
open Tryz Go.RowKit Go.Shelf
def L3 (s:Ap) (st G:Bb):Prop:=
 ∀(w:zN) (P:zT) (lo A mt F lb D:Nat) (s0 s1 s2:Value),Bt w P lo A mt F lb D s0 s1 s2 st->A0 w P s [s0,s1,s2]->
  Calls prog 64 #[zK A] w fun e w'=>e=.returned (.tuple #[])/\Bt w' P lo A mt F lb D s0 s1 s2 G/\A8 P w w'
theorem Ps (s:Ap) (st:Bb) (x:Bc) (A:s.Ac[st.state]? =some x) (M:J0 x.Ai) (T:st.Bd.length<=512) (O:firstM (Eg x.Ai) st.Bd (st.Bd+1) 0=none) (J:st.eof=false):L3 s st st:=
 fun w P lo G mt H lb D s0 s1 s2 h F=>(Yp s w P lo G mt H lb D s0 s1 s2 st h F x A M T O J).mono fun _ _ ⟨e,U⟩=>⟨e,h.below U,A8.By U h.low⟩
theorem Ab6 {w:zN} {S:zT} {xs:zQ} {a:zO} {c n:Nat} (h:Dr w S xs (.slice a xs c)) (F:∀b,S b->b<n):Bs w n 1 a (xs.map fun x=>[.int .u8 x.toNat])/\(a=none->xs=[]):=by
 obtain⟨G,H,e,-,h0 | ⟨b,o,rfl,U,D⟩⟩:=h
 ·exact⟨.inl (by rw[h0];rfl),fun _=>h0⟩
 cases e;refine⟨.inr ⟨b,o,rfl,F b U,fun i ae=>?_⟩,fun e=>yW⟩;rw[Zbh];refine⟨fun j v A=>?_,rfl⟩;cases j with
 | zero=>
  rw[Zaf,Zba];simp only[Zad,Zbb]at A;exact D i v (by rw[Zbl,Zam xE,<-A];rfl)
 | succ j=>simp at A
theorem V6 {w:zN} {lo:Nat} {v:Value} {xs:zQ} (h:w.ownsRow lo 5 1 v xs (xs.map fun x=>[Value.int .u8 x.toNat]).flatten):Au Nb lo 5 1 w xs v:=by
 refine⟨xs.map fun x=>[.int .u8 x.toNat],⟨by rw[Zeq];exact h,fun cs A=>?_⟩,yF,fun i h1 h2=>by rw[Zbh];rfl⟩;simp only[Zfb]at A;obtain⟨x,-,rfl⟩:=A;rfl
theorem Abn {w:zN} {lo:Nat} {v:Value} {xs:zQ} (h:Au Nb lo 5 1 w xs v):Dr w (fun b=>lo<=b/\b<w/\v.ownBlock=some b) xs v:=by
 obtain⟨G,h1,h2,h3⟩:=h;obtain⟨a,c,rfl,O⟩:=h1.shape;refine⟨a,c,by rw[h2],yE,?_⟩;rcases h1.at_ with h0 | ⟨g,T,A,M,H,F⟩
 ·left;rw[h0]at h2;exact Zeo.1 h2.symm
 cases A;refine .inr ⟨g,0,rfl,⟨M,H,rfl⟩,fun j v A=>?_⟩;rw[Zbl]at A;obtain⟨x,D,rfl⟩:=Zgp.1 A;obtain⟨J,rfl⟩:=Zeg.1 D;have h4:=h3 j J yE;have h5:=F j yE;rw[show G[j]=[.int .u8 xs[j].toNat]from h4]at h5;have:=h5 0 _ rfl;rwa[Zaf,Zba]at this
theorem X5:prog.underlying 22=some (.slice 5):=yG
theorem V4:(prog.info? 5).map (fun i=>(i.size,i.bytes,i.zero.map fun z=>z.cells.size))=some (1,1,some 1):=yG
def Acq (s:Ap) (c:UInt8) (st G:Bb):Prop:=
 ∀(w:zN) (P:zT) (lo A mt F lb D:Nat) (s0 s1 s2:Value),Bt w P lo A mt F lb D s0 s1 s2 st->A0 w P s [s0,s1,s2]->
  Calls prog 36 #[zK A,c] w fun e w'=>e=.returned (.tuple #[])/\Bt w' P lo A mt F lb D s0 s1 s2 G/\A8 P w w'
theorem Wj (s:Ap) (c:UInt8) (A ag:Bb) (hlen:(A.Bd.length:Int)≠s.Aj) (an:A.Ec=1) (b0:A.Bd.length<=500) (ay:L3 s (A.byte c) ag):Acq s c A ag:=by
 intro D P lo F mt aw lb ar s0 s1 s2 h1 a5;have aH:=Zaa ay;have aA:=a5;obtain⟨v,u,es,⟨aL,aN,rfl,-⟩,⟨aM,aK,rfl,-⟩⟩:=aA;simp only[Zdm,Zhm]at es;obtain⟨rfl,rfl,rfl⟩:=es;obtain⟨⟨aI,aT,U,ae,he,aB⟩,-⟩:=id h1;obtain⟨a2,Y,rfl,ak⟩:=Md ae;obtain⟨ac,aj⟩:=Ab6 ak (fun b U=>U);have aJ:((A.Bd.length:Int)==s.Aj)=false:=by rw[Zaz];exact hlen
 have aD:=U.cell (j:=0) rfl;have a3:=U.cell (j:=5) rfl;have M:=U.cell (j:=11) rfl;rw[an]at M;have ad:=fun(X:zN) (a7:Below D D X)=>Wk (A.Bd.map fun x=>[.int .u8 x.toNat]) a2 Y X D a7.size (by rw[Zeq];omega) (ac.below a7 (Zab _)) (fun e=>by rw[aj e];rfl) (by
  intro u hu;simp only[Zfa,Zfb]at hu;obtain⟨l,⟨y,_,rfl⟩,hu⟩:=hu;simp only[Zbf]at hu;subst hu;rfl)
 have G:=Bk (Zai D D) 1 (Zab _);have fJ:=h1.below G;have bps:=A0.Ab.block a5 (w':=D.drewN 1) fun b U=>G.block b (h1.low b U)
 have ao:=A8.By G h1.low;have a6:=Zaa (ad _ G);rw[Zeq]at a6;clear ad ac aj ae he aB ak;go_enter func36,ntmps36
 go_upto_region 0 with fail
 refine Ce [(0,.inl none),(1,.inl none),(2,.inl none),(3,.inl (some 0)),(4,.inl none),(5,.inl none),(6,.inl none),(7,.inl none),(8,.inl none),(9,.inl (some 0)),(10,.inl none)]
  (fun _ X=>X.cell? ⟨F,5,none⟩=some (.slice a2 A.Bd Y)/\X.cell? ⟨F,0,none⟩=some (.int .i64 s.Aj)) [0] yG yG (fun _ _=>⟨(U.drewN 1).cell (j:=5) rfl,(U.drewN 1).cell (j:=0) rfl⟩) ?_
 refine Z09 ?_;refine Z3x ?_;refine Ba (.slice a2 A.Bd Y) yI (fun w' W=>?_) (fun K J=>?_)
 ·have au:=W.1;go_simp
 (go_simp;refine J _ ?_;clear J K)
 refine Z46 ?_;refine Ba (.int .i64 s.Aj) yI (fun w' W=>?_) (fun K J=>?_)
 ·have au:=W.2;go_simp
 (go_simp;refine J _ ?_;clear J K)
 refine Z2o ?_;refine B1 ?_;have af:=U.drewN 1;clear U aD a3 M h1 a5
 rename_i _ _
 obtain⟨O,a1⟩:∃O,O=D.drewN 1:=⟨_,rfl⟩;rw[<-a1]at fJ bps ao a6 af G;rw[<-a1];clear a1;have a3:=af.cell (j:=5) rfl;have M:=af.cell (j:=11) rfl;rw[an]at M;clear af;go_wp2_with fail
 refine a6.out.mono ?_;rintro e aq ⟨aU,rfl,ah,al⟩;have a0:=V6 ah;obtain⟨aV,aW,rfl,aP⟩:=a0.shape;clear ah a3 M;obtain⟨⟨aS,az,af,-,bY,ap⟩,-⟩:=id fJ;have H:=af.below al af.lt;have aE:=al.size;have aa:=H.cell (j:=5) rfl;have f5:=H.frozen 5;have aR:=H.lt;have aC:O.heap.size<=aq.heap.size:=aE;have aG:=Zaa a0;have ax:=Zaa H;clear a0 H;go_wp2_with (at_builtin;go_loud (refine Am Nb.Ab rfl _ _ 22 rfl O.heap.size 5 1 1 X5 V4 yH A.Bd _ rfl aG.out c [c] rfl rfl rfl rfl yL tN yE aC ?_))
 intro T V bd ai aY bwo aZ aX aQ;refine Z4E ?_;intro zq bem o0 bz0 ml bl6 h5 tk;have ab:=As bd F 5 (.slice T (A.Bd+1) V);have a8:Dr bd (fun b=>b<bd/\b≠F/\b≠mt/\b≠lb/\some b≠az.ownBlock/\¬P b) (A.byte c).Bd (.slice T (A.Bd+1) V):=Dr.Ab.wide (Abn ai) fun b U=>⟨U.2.1,yE,yE,yE,fun e=>by have:=(bY.lt b e.symm).2;have:=U.1;omega,fun hp=>by have:=o0 b hp;have:=U.1;omega⟩
 have h6:=h5.U1 (A.byte c) bl6 ap ab rfl rfl rfl rfl (ml.set 5 (.slice T (A.Bd+1) V)) a8;have a4:=h5.kept ab;have am:=A0.Ab.block tk fun b U=>a4.block b U
 have a9:=(A8.By zq o0).trans a4;clear aa f5;have aa:=ml.cell (j:=5) rfl;have f5:=ml.frozen 5;clear a8 bl6 ml af bY ap ax h5 tk a4 ai;go_wp2_with fail
 generalize bd.setCell ⟨F,5,none⟩ (.slice T (A.Bd+1) V)=av at h6 am a9|-;refine(aH.out av P lo F mt aw lb ar _ _ _ h6 am).mono ?_;rintro e aO ⟨rfl,h7,aF⟩;go_wp2_with fail
 go_end0
 exact⟨rfl,h7,ao.trans (a9.trans aF)⟩
theorem Ajp (s:Ap) (c:UInt8) (F A ao:Bb) (aK:s.Aj=4) (hlen:F.Bd.length=4) (o0:F.low<=1000) (aE:F.A5.length<=1000) (aS:A.Ec=1) (b9:A.Bd.length<=500) (am:L3 s (F.cut 3 2) A) (ah:L3 s (A.byte c) ao):Acq s c F ao:=by
 intro M P lo D mt a5 lb a4 s0 s1 s2 h1 a1;have aR:=Zaa ah;have aF:=Zaa am;have aI:=a1;obtain⟨v,u,es,⟨aV,aX,rfl,-⟩,⟨aW,aU,rfl,-⟩⟩:=aI;simp only[Zdm,Zhm]at es;obtain⟨rfl,rfl,rfl⟩:=es;rw[aK]at h1 a1|-;obtain⟨⟨aB,aM,U,H,he,a6⟩,-⟩:=id h1;obtain⟨a0,V,rfl,a2⟩:=Md H;have Y:=Bk (Zai M M) 1 (Zab _);have h2:=h1.below Y;have a8:=A0.Ab.block a1 (w':=M.drewN 1) fun b U=>Y.block b (h1.low b U)
 have ak:=A8.By Y h1.low;rw[hlen]at U;have af:=U.drewN 1;clear H he a6 a2 ah am;go_enter func36,ntmps36
 go_upto_region 0 with fail
 refine Ce [(0,.inl none),(1,.inl none),(2,.inl none),(3,.inl (some 0)),(4,.inl none),(5,.inl none),(6,.inl none),(7,.inl none),(8,.inl none),(9,.inl (some 0)),(10,.inl none)]
  (fun _ X=>X.cell? ⟨D,5,none⟩=some (.slice a0 4 V)/\X.cell? ⟨D,0,none⟩=some (.int .i64 4)) [0] yG yG (fun _ _=>⟨af.cell (j:=5) rfl,af.cell (j:=0) rfl⟩) ?_
 refine Z09 ?_;refine Z3x ?_;refine Ba (.slice a0 4 V) yI (fun w' a3=>?_) (fun K J=>?_)
 ·have aC:=a3.1;go_simp
 (go_simp;refine J _ ?_;clear J K)
 refine Z46 ?_;refine Ba (.int .i64 4) yI (fun w' a3=>?_) (fun K J=>?_)
 ·have aC:=a3.2;go_simp
 (go_simp;refine J _ ?_;clear J K)
 refine Z2o ?_;refine B1 ?_;obtain⟨aa,ab⟩:∃aa,aa=M.drewN 1:=⟨_,rfl⟩;rw[<-ab]at h2 a8 ak af;rw[<-ab];have aq:=Zaa (Aar aa P lo D mt a5 lb a4 _ _ _ F h2 3 2 yE o0 yE aE);have aL:=af.cell (j:=0) rfl;clear ab Y h1 a1 U;go_wp2_with fail
 refine aq.out.mono ?_;rintro e aT ⟨rfl,h3,an⟩;have ac:=A0.Ab.block a8 fun b U=>an.block b U
 clear h2 a8 af aL aq;go_wp2_with fail
 refine(aF.out aT P lo D mt a5 lb a4 _ _ _ h3 ac).mono ?_;rintro e O ⟨rfl,fJ,ap⟩;have bps:=A0.Ab.block ac fun b U=>ap.block b U
 clear h3 ac;obtain⟨⟨aB,aM,U,H,he,a6⟩,-⟩:=id fJ;obtain⟨a0,V,rfl,a2⟩:=Md H;obtain⟨aj,aw⟩:=Ab6 a2 (fun b U=>U);have au:=Zaa (Wk (A.Bd.map fun x=>[.int .u8 x.toNat]) a0 V O O (Zab _) (by rw[Zeq];omega) aj (fun e=>by rw[aw e];rfl) (by
  intro u hu;simp only[Zfa,Zfb]at hu;obtain⟨l,⟨y,_,rfl⟩,hu⟩:=hu;simp only[Zbf]at hu;subst hu;rfl))
 rw[Zeq]at au;have aO:=U.cell (j:=5) rfl;have az:=U.cell (j:=11) rfl;rw[aS]at az;clear aj aw H he a6 a2 U;go_wp2_with fail
 refine au.out.mono ?_;rintro e aA ⟨b3,rfl,ar,al⟩;have a7:=V6 ar;obtain⟨b4,b5,rfl,aZ⟩:=a7.shape;clear ar aO az;obtain⟨⟨b2,aH,af,-,bY,ay⟩,-⟩:=id fJ;have G:=af.below al af.lt;have aN:=al.size;have ag:=G.cell (j:=5) rfl;have f5:=G.frozen 5;have b1:=G.lt;have aJ:O.heap.size<=aA:=aN;have aQ:=Zaa a7;have aG:=Zaa G;clear a7 G;go_wp2_with (at_builtin;go_loud (refine Am Nb.Ab rfl _ _ 22 rfl O.heap.size 5 1 1 X5 V4 yH A.Bd _ rfl aQ.out c [c] rfl rfl rfl rfl yL tN yE aJ ?_))
 intro T W bd av b7 bwo b8 b6 b0;refine Z4E ?_;intro zq bem o0 bz0 ml bl6 h5 tk;have ai:=As bd D 5 (.slice T (A.Bd+1) W);have ad:Dr bd (fun b=>b<bd/\b≠D/\b≠mt/\b≠lb/\some b≠aH.ownBlock/\¬P b) (A.byte c).Bd (.slice T (A.Bd+1) W):=Dr.Ab.wide (Abn av) fun b U=>⟨U.2.1,yE,yE,yE,fun e=>by have:=(bY.lt b e.symm).2;have:=U.1;omega,fun hp=>by have:=o0 b hp;have:=U.1;omega⟩
 have h6:=h5.U1 (A.byte c) bl6 ay ai rfl rfl rfl rfl (ml.set 5 (.slice T (A.Bd+1) W)) ad;have a9:=h5.kept ai;have ax:=A0.Ab.block tk fun b U=>a9.block b U
 have ae:=(A8.By zq o0).trans a9;clear ag f5;have ag:=ml.cell (j:=5) rfl;have f5:=ml.frozen 5;clear ad bl6 ml af bY ay aG h5 tk a9 av;go_wp2_with fail
 generalize bd.setCell ⟨D,5,none⟩ (.slice T (A.Bd+1) W)=aD at h6 ax ae|-;refine(aR.out aD P lo D mt a5 lb a4 _ _ _ h6 ax).mono ?_;rintro e aY ⟨rfl,h7,aP⟩;go_wp2_with fail
 go_end0
 exact⟨rfl,h7,(ak.trans (an.trans ap)).trans (ae.trans aP)⟩
end
end Go.Proofs.YtafmoofknjncpaaGreatDoor
