/- A part of the proof that ModelWrong holds: its theorems stand as they are typed. -/
import Derived.Test.YtafmoofknjncpaaGreatDoorF
set_option linter.all false
set_option maxRecDepth 100000
set_option maxHeartbeats 8000000
namespace Go.Proofs.YtafmoofknjncpaaGreatDoor
section
open Tryz Go.RowKit Go.Shelf
def A2 {α:Type} (I:World->(Nat->Prop)->α->List Value->Prop) (lo:Nat) (w:zN) (S:zT) (x:α) (cs:zP):Prop:=I w (fun b=>S b/\lo<=b) x cs
theorem A2.Ab {α:Type} {I:World->(Nat->Prop)->α->List Value->Prop} (hI:Cp I) (lo:Nat):Cp (A2 I lo):=fun w w' S S' x c A hm h=>
 hI w w' _ _ x c (fun b o D U=>A b o D U.1) (fun b U=>⟨hm b U.1,U.2⟩) h
theorem Au.fresh {α:Type} {I:World->(Nat->Prop)->α->List Value->Prop} (hI:Cp I) {w:zN} {lo K:Nat} {e:TypeId} {v:Value} {l:List α} (h:Au (A2 I lo) lo e K w l v):Al I K w (fun b=>lo<=b/\b<w) l v:=by
 obtain⟨F,h1,h2,h3⟩:=h;obtain⟨a,c,rfl,M⟩:=h1.shape;refine⟨a,c,by rw[h2],yE,?_⟩;rcases h1.at_ with h0 | ⟨g,O,G,J,H,A⟩
 ·left;rw[h0]at h2;exact Zeo.1 h2.symm
 cases G;exact .inr ⟨g,0,rfl,⟨J,H⟩,fun i D=>⟨F[i]'yE,A i yE,hI.wide (h3 i D yE) fun b U=>⟨U.2,U.1.1⟩⟩⟩
def Wn (cs:zP):Prop:=∃(A:zS) (F:zO) (G:Nat) (D:Nat),cs=[.string A,.slice F G D]
theorem Pt:(prog.info? 37).map (fun i=>(i.size,i.bytes,i.zero.map fun z=>z.cells.size))=some (2,40,some 2):=yG
theorem N9:prog.underlying 28=some (.slice 37):=yG
def Iv (w:zN) (S:zT) (x:Bc) (cs:zP):Prop:=
 ∃v A,cs=[.string x.name,v]/\Dc w 0 48 16 v A/\A.length=x.Ai.length/\(∀k,v.ownBlock=some k->S k)/\∀i (h1:i<x.Ai.length) (h2:i<A.length),Bj w (fun b=>S b/\some b≠v.ownBlock) x.Ai[i] A[i]
theorem Iv.Ab:Ws Iv:=by
 rintro w w' S S' x c F hm ⟨v,H,rfl,D,J,G,hI⟩;refine⟨v,H,rfl,⟨⟨D.1.1,?_⟩,D.2⟩,J,fun k e=>hm _ (G k e),fun i a b=>Bj.Ab.wide (Bj.Ab.block (hI i a b) fun k A=>F k A.1) fun k A=>⟨hm k A.1,A.2⟩⟩;rcases D.1.2 with h | ⟨g,cap,cur,e,h1,h2,h3⟩
 ·exact .inl h
 exact .inr ⟨g,cap,cur,e,h1,(F g (G g yS)).trans h2,h3⟩
theorem Iv.state {w:zN} {S:zT} {x:Bc} {cs:zP} (h:Iv w S x cs):Cf w S x cs:=by
 obtain⟨v,H,rfl,D,A,M,hI⟩:=h;obtain⟨a,c,rfl,T⟩:=D.shape;refine⟨_,rfl,a,c,by rw[A],yE,?_⟩;rcases D.at_ with h0 | ⟨g,V,J,_,O,F⟩
 ·left;rw[h0]at A;exact Zeo.1 A.symm
 cases J;exact .inr ⟨g,0,rfl,M g rfl,fun i G=>⟨H[i]'yE,F i yE,Bj.Ab.wide (hI i G yE) fun b U=>U.1⟩⟩
def G6 (w:zN) (S:zT) (p:Bc×Nat×Nat) (cs:zP):Prop:=Iv w (fun b=>S b/\p.2.1<=b/\b<p.2.2) p.1 cs
theorem G6.Ab:Ws G6:=fun w w' S S' p c A hm h=>Iv.Ab w w' _ _ p.1 c (fun b U=>A b U.1) (fun b U=>⟨hm b U.1,U.2⟩) h
def Z4 (lo A:Nat) (l:List (Bc×Nat×Nat)):Prop:=(∀p∈l,lo<=p.2.1/\p.2.1<=p.2.2/\p.2.2<=A)/\l.Pairwise fun p q=>p.2.2<=q.2.1
theorem Au.Ac {w:zN} {lo:Nat} {e:TypeId} {v:Value} {l:List (Bc×Nat×Nat)} {G:Nat} (h:Au G6 lo e 2 w l v) (F:Z4 lo G l):Au (A2 Cf lo) lo e 2 w (l.map (·.1)) v:=by
 obtain⟨H,h1,h2,h3⟩:=h;refine⟨H,h1,by simp[h2],fun i a b=>?_⟩;have D:i<l:=by simpa using a
 have:=(h3 i D b).state;rw[Zbh];exact Cf.Ab.wide this fun k A=>⟨A.1,Zag (F.1 _ (Zat D)).1 A.2.1⟩
theorem Au.Apy {w w':zN} {lo g G:Nat} {e:TypeId} {v:Value} {l:List (Bc×Nat×Nat)} (h:Au G6 lo e 2 w l v) (D:w.grownBy w' (some g)) (O:g<lo) (F:∀p∈l,lo<=p.2.1/\p.2.1<=p.2.2/\p.2.2<=G):Au G6 lo e 2 w' l v:=by
 have M:=h.lt;obtain⟨H,h1,h2,h3⟩:=h;refine⟨H,h1.grown D ?_,h2,fun i a b=>G6.Ab _ _ _ _ _ _ (fun _ _=>rfl) (fun b U=>U) (Iv.Ab _ _ _ _ _ _ (fun k A=>D.block k A.1.1 ?_) (fun k A=>⟨⟨Zal A.1.1 D.size,A.1.2⟩,A.2⟩) (h3 i a b))⟩
 ·cases J:v.ownBlock with
  | none=>exact .inl rfl
  | some q=>right;intro e;cases e;have:=(M _ J).1;omega
 have:=(F _ (Zat a)).1;have:=A.2.1;simp only[ne_eq,Zbb];omega
theorem Aor {w:zN} {S:zT} {x:Bc} {cs:zP} (h:Iv w S x cs):Wn cs:=by
 obtain⟨v,D,rfl,A,_⟩:=h;obtain⟨a,c,rfl,_⟩:=A.shape;exact⟨_,_,_,_,rfl⟩
theorem Afw {w:zN} {S:zT} (x:Bc) (cs:zP) (h:Cf w S x cs):Wn cs:=by
 obtain⟨v,rfl,a,c,rfl,_⟩:=h;exact⟨_,_,_,_,rfl⟩
theorem Ahd (gf:Nat) (aH:∀args w,(callFunc gf args).run prog w=.ok (.enter gf args) w) (l:List Bc) (v:Value) (w:zN) (n:Nat) (aj:n<=w.heap.size) (hlen:l.length<=100000) (ac:Al Cf 2 w (fun b=>b<n) l v)
  (hC:∀x∈l,∀cs X,Below w w X->Cf X (fun b=>b<n) x cs->Calls prog gf #[.agg cs.toArray] X fun e W=>∃Y,e=.returned (.agg Y.toArray)/\Iv W (fun b=>X.heap.size<=b/\b<W) x Y/\Below X X W):
  Calls prog 26 #[v,.func (.func gf) #[] #[]] w fun e w'=>∃ad,e=.returned ad/\Below w w w'/\∃ws,ws.map (·.1)=l/\Z4 w w' ws/\Au G6 w 37 2 w' ws ad:=by
 obtain⟨aA,az,rfl,-,ab⟩:=ac.at
 have ao:=Zaa ab
 have am:=Zaa hC
 have ai:Au G6 w 37 2 w [] (.slice none 0 0):=Au.nil _ _ _ _ _
 clear ab hC ac
 go_enter func26,ntmps26
 go_wp2_with fail
 go_loopw [5,10] (fun u v wr=>∃(i:Nat) (ws:List (Bc×Nat×Nat)),i<=l/\v=.int .i64 i/\ws.map (·.1)=l.take i/\Z4 w wr ws/\Au G6 w 37 2 wr ws u/\Below w w wr) (fun _ v _=>l.length - (intOf v).toNat)
 case atStart=>exact⟨0,[],Zap _,rfl,rfl,⟨yF,.nil⟩,ai,Zai _ _⟩
 case round=>
  clear ai;obtain⟨i,ws,av,rfl,a1,ae,c6,U⟩:=hrel;have k8:ws.length=i:=by have:=Zhr List.length a1;simp at this;omega
  have a8:=Zaa a1;have O:=Zaa ae;clear a1 ae;obtain⟨e6,gc,rfl,-⟩:=c6.P4 i k8;by_cases V:i<l
  ·have aF:(i:Int) <l.length:=by omega
   obtain⟨b,o,rfl,aD,cs,h1,h2⟩:=ao.out i V;obtain⟨F,H,J,G,rfl⟩:=Afw _ _ h2;have a0:=Aa h1 U yE;have ah:=Cf.Ab.below h2 (U.mono aj);have an:=Zat V;have af:l.take (i+1)=l.take i++[l[i]]:=Zay V;have aq:=Zaa af;have M:Below w w (wr.alloc (.cells #[F,.slice H J G] 37)):=U.alloc U.size _;have al:=Zaa (am.out l[i] an [F,.slice H J G] _ M (Cf.Ab.below ah ((Af (w:=wr) (.cells #[F,.slice H J G] 37)).mono vL)));have ag:=c6.Aca G6.Ab (Af (w:=wr) (.cells #[F,.slice H J G] 37)) (Zab _);refine Z4d ?_;intro sg;generalize l[i]=x at*
   have d0:=a0 0 _ rfl;have d1:=a0 1 _ rfl;simp only[Zaf]at d0;have h63:i+1<=maxLen/\(i+1)*40<=140737488355328:=⟨yP,yE⟩;have iy:=Zaa h63;have au:=U.size;clear h1 h2 a0 ah h63 af c6;go_wp2_with fail
   refine al.out.mono ?_;rintro e D ⟨Y,rfl,a2,T⟩;obtain⟨a3,a4,a5,a6,rfl⟩:=Aor a2;have ar:=ag.Aca G6.Ab T (Zab _);have a9:=M.trans (T.mono M.size);have aB:=a9.size;have ap:=T.size;rw[Zaq]at ap;have hy:G6 D (fun q=>q<D.heap.size/\some q≠(Value.slice e6 i gc).ownBlock) (x,wr.heap.size+1,D.heap.size) [a3,.slice a4 a5 a6]:=Iv.Ab _ _ _ _ _ _ (fun _ _=>rfl) (fun q A=>by
    have h5:=A.1;rw[Zaq]at h5;exact⟨⟨A.2,fun e=>uV⟩,h5,A.2⟩) a2
   clear a2 M ag d0 d1;go_wp2_with (at_builtin;go_loud (refine L7 G6.Ab rfl _ _ 28 rfl w.heap.size 37 2 40 N9 Pt yH ws (.slice e6 i gc) rfl ar (x,wr.heap.size+1,D.heap.size) [a3,.slice a4 a5 a6] rfl yF hy rfl yL uA uB yE ?_;intro ax ay aw aa aG ak aE aC _))
   try rw[k8]at aa
   go_roundw
   case rel=>
    refine⟨i+1,_,yE,yK,by rw[aq.out,Zet,a8.out];rfl,⟨fun p hp=>?_,?_⟩,aa,a9.trans ak⟩
    ·rcases Zew.1 hp with hp | hp
     ·have:=O.out.1 p hp;omega
     simp only[Zbf]at hp;subst hp;simp only;omega
    refine List.pairwise_append.2 ⟨O.out.2,yF,fun p hp q A=>?_⟩;simp only[Zbf]at A;subst A;have:=O.out.1 p hp;simp only;omega
   case measure=>simp[intOf];omega
  obtain rfl:i=l:=by omega
  refine Z1q ?_;intro fe;go_wp2_with fail
  go_ret;exact⟨_,rfl,U,ws,by rw[a8.out,Zbk],O.out,c6⟩
def Y8 (cs:zP):Prop:=∃(F:Int) (b1:Bool) (b2:Bool) (G:Int) (s1:Int) (s2:Int) (s3:Int) (a1:Int) (A:Int) (D:Int) (W:zO) (U:Nat) (V:Nat) (H:zS) (J:Int) (Y:zO) (a0:Nat) (M:Nat) (O:zS) (T:Int),cs=[.int .u8 F,.bool b1,.bool b2,.int .u8 G,.int .u64 s1,.int .u64 s2,.int .u64 s3,.int .u64 a1,.int .i64 A,.int .i64 D,.slice W U V,.string H,.int .i64 J,.slice Y a0 M,.string O,.int .i64 T]
theorem N0:(prog.info? 48).map (fun i=>(i.size,i.bytes,i.zero.map fun z=>z.cells.size))=some (16,168,some 16):=yG
theorem Ml:prog.underlying 35=some (.slice 48):=yG
theorem Ajm {α:Type} {I:World->(Nat->Prop)->α->List Value->Prop} (hI:Cp I) (J:∀w S x cs,I w S x cs->Y8 cs) (gf:Nat) (aS:∀args w,(callFunc gf args).run prog w=.ok (.enter gf args) w) (l:List α) (v:Value) (w:zN) (n:Nat) (ah:n<=w.heap.size) (hlen:l.length<=100000) (ab:Al I 16 w (fun b=>b<n) l v)
  (hC:∀x∈l,∀cs X,Below w w X->I X (fun b=>b<n) x cs->Calls prog gf #[.agg cs.toArray] X fun e a4=>∃a5,e=.returned (.agg a5.toArray)/\I a4 (fun b=>X.heap.size<=b/\b<a4) x a5/\Below X X a4):
  Calls prog 28 #[v,.func (.func gf) #[] #[]] w fun e w'=>∃a6,e=.returned a6/\Al I 16 w' (fun b=>w.heap.size<=b/\b<w') l a6/\Below w w w'/\Au (A2 I w) w 48 16 w' l a6:=by
 obtain⟨aM,aL,rfl,-,aa⟩:=ab.at
 have aF:=Zaa aa
 have au:=Zaa hC
 have ac:Au (A2 I w) w 48 16 w (l.take 0) (.slice none 0 0):=Au.nil _ _ _ _ _
 clear aa hC ab
 go_enter func28,ntmps28
 go_wp2_with fail
 go_loopw [5,10] (fun u v wr=>∃i:Nat,i<=l/\v=.int .i64 i/\Au (A2 I w) w 48 16 wr (l.take i) u/\Below w w wr) (fun _ v _=>l.length - (intOf v).toNat)
 case atStart=>exact⟨0,Zap _,rfl,ac,Zai _ _⟩
 case round=>
  clear ac;obtain⟨i,aH,rfl,c6,U⟩:=hrel;have k8:(l.take i).length=i:=yJ;obtain⟨e6,gc,rfl,-⟩:=c6.P4 i k8;by_cases ao:i<l
  ·have aQ:(i:Int) <l.length:=by omega
   obtain⟨b,o,rfl,aO,cs,h1,h2⟩:=aF.out i ao;obtain⟨F,b1,b2,G,s1,s2,s3,a3,A,D,a0,W,Y,H,M,a1,a2,O,T,V,rfl⟩:=J _ _ _ _ h2;refine Z3K ?_;intro fm nc j7 gW tc;have mw:Below w w (wr.alloc (.cells #[.int .u8 F,b1,b2,.int .u8 G,.int .u64 s1,.int .u64 s2,.int .u64 s3,.int .u64 a3,A,D,.slice a0 W Y,H,M,.slice a1 a2 O,T,V] 48)):=U.alloc U.size _;have ad:=Zaa (au.out l[i] j7 [.int .u8 F,b1,b2,.int .u8 G,.int .u64 s1,.int .u64 s2,.int .u64 s3,.int .u64 a3,A,D,.slice a0 W Y,H,M,.slice a1 a2 O,T,V] _ mw (hI.below nc ((Af (w:=wr) (.cells #[.int .u8 F,b1,b2,.int .u8 G,.int .u64 s1,.int .u64 s2,.int .u64 s3,.int .u64 a3,A,D,.slice a0 W Y,H,M,.slice a1 a2 O,T,V] 48)).mono vL)));have l8:=c6.alloc (A2.Ab hI _) (.cells #[.int .u8 F,b1,b2,.int .u8 G,.int .u64 s1,.int .u64 s2,.int .u64 s3,.int .u64 a3,A,D,.slice a0 W Y,H,M,.slice a1 a2 O,T,V] 48);refine Z4d ?_;intro sg;generalize l[i]=x at*
   refine Z19 ?_;intro d0 d1 d2 d3 d4 d5 d6 d7;have d8:=fm 8 _ rfl;have d9:=fm 9 _ rfl;have d10:=fm 10 _ rfl;have d11:=fm 11 _ rfl;have d12:=fm 12 _ rfl;have d13:=fm 13 _ rfl;have d14:=fm 14 _ rfl;have d15:=fm 15 _ rfl;simp only[Zaf]at d0;have h63:i+1<=maxLen/\(i+1)*168<=140737488355328:=⟨yP,yE⟩;have iy:=Zaa h63;have aG:=U.size;clear h1 h2 fm nc h63 gW c6;go_wp2_with fail
   refine ad.out.mono ?_;rintro e a9 ⟨a5,rfl,a8,af⟩;obtain⟨ak,av,aw,am,az,aA,aB,aC,aD,aE,an,ap,aq,ae,ar,ag,ai,aj,ax,ay,rfl⟩:=J _ _ _ _ a8;refine Z4D ?_;intro zo c7 eF re;rw[Zaq]at re;have hy:A2 I w a9 (fun q=>q<a9.heap.size/\some q≠(Value.slice e6 i gc).ownBlock) x [.int .u8 ak,av,aw,.int .u8 am,.int .u64 az,.int .u64 aA,.int .u64 aB,.int .u64 aC,aD,aE,.slice an ap aq,ae,ar,.slice ag ai aj,ax,ay]:=hI.wide a8 fun q b5=>by
    exact Z1U
   clear a8 mw l8 d0 d1 d2 d3 d4 d5 d6 d7 d8 d9 d10 d11 d12 d13 d14 d15;go_wp2_with (at_builtin;go_loud (refine Am (A2.Ab hI _) rfl _ _ 35 rfl w.heap.size 48 16 168 Ml N0 yH _ _ rfl zo _ _ rfl yF hy rfl yL uA uB yE ?_;intro aJ aK aI cj aR al aP aN _))
   exact Z2P
  obtain rfl:i=l:=by omega
  refine Z1q ?_;intro fe;rw[Zbk]at c6;go_wp2_with fail
  go_ret;exact⟨_,rfl,c6.fresh hI,U,c6⟩
def T8 (cs:zP):Prop:=∃(A:Int) (F:zS) (U:zO) (V:Nat) (G:Nat) (D:Int) (q1:Nat) (H:zS) (O:Int) (T:zO) (J:Nat) (M:Nat),cs=[.int .u8 A,.string F,.slice U V G,.int .u8 D,.float .f64 q1,.string H,.int .i64 O,.slice T J M]
theorem Yw:(prog.info? 120).map (fun i=>(i.size,i.bytes,i.zero.map fun z=>z.cells.size))=some (8,112,some 8):=yG
theorem U5:prog.underlying 46=some (.slice 120):=yG
theorem Amg {α:Type} {I:World->(Nat->Prop)->α->List Value->Prop} (hI:Cp I) (J:∀w S x cs,I w S x cs->T8 cs) (gf:Nat) (aG:∀args w,(callFunc gf args).run prog w=.ok (.enter gf args) w) (l:List α) (v:Value) (w:zN) (n:Nat) (ah:n<=w.heap.size) (hlen:l.length<=100000) (a5:Al I 8 w (fun b=>b<n) l v)
  (hC:∀x∈l,∀cs X,Below w w X->I X (fun b=>b<n) x cs->Calls prog gf #[.agg cs.toArray] X fun e a0=>∃a1,e=.returned (.agg a1.toArray)/\I a0 (fun b=>X.heap.size<=b/\b<a0) x a1/\Below X X a0):
  Calls prog 55 #[v,.func (.func gf) #[] #[]] w fun e w'=>∃a6,e=.returned a6/\Al I 8 w' (fun b=>w.heap.size<=b/\b<w') l a6/\Below w w w':=by
 obtain⟨aA,az,rfl,-,a4⟩:=a5.at
 have ar:=Zaa a4
 have aq:=Zaa hC
 have a8:Au (A2 I w) w 120 8 w (l.take 0) (.slice none 0 0):=Au.nil _ _ _ _ _
 clear a4 hC a5
 go_enter func55,ntmps55
 go_wp2_with fail
 go_loopw [5,10] (fun u v wr=>∃i:Nat,i<=l/\v=.int .i64 i/\Au (A2 I w) w 120 8 wr (l.take i) u/\Below w w wr) (fun _ v _=>l.length - (intOf v).toNat)
 case atStart=>exact⟨0,Zap _,rfl,a8,Zai _ _⟩
 case round=>
  clear a8;obtain⟨i,av,rfl,c6,U⟩:=hrel;have k8:(l.take i).length=i:=yJ;obtain⟨e6,gc,rfl,-⟩:=c6.P4 i k8;by_cases ao:i<l
  ·have aE:(i:Int) <l.length:=by omega
   obtain⟨b,o,rfl,aC,cs,h1,h2⟩:=ar.out i ao;obtain⟨A,F,W,Y,G,D,q1,H,T,V,M,O,rfl⟩:=J _ _ _ _ h2;refine Z3K ?_;intro fm nc j7 gW tc;have mw:Below w w (wr.alloc (.cells #[.int .u8 A,F,.slice W Y G,.int .u8 D,.float .f64 q1,H,T,.slice V M O] 120)):=U.alloc U.size _;have a9:=Zaa (aq.out l[i] j7 [.int .u8 A,F,.slice W Y G,.int .u8 D,.float .f64 q1,H,T,.slice V M O] _ mw (hI.below nc ((Af (w:=wr) (.cells #[.int .u8 A,F,.slice W Y G,.int .u8 D,.float .f64 q1,H,T,.slice V M O] 120)).mono vL)));have l8:=c6.alloc (A2.Ab hI _) (.cells #[.int .u8 A,F,.slice W Y G,.int .u8 D,.float .f64 q1,H,T,.slice V M O] 120);refine Z4d ?_;intro sg;generalize l[i]=x at*
   refine Z19 ?_;intro d0 d1 d2 d3 d4 d5 d6 d7;simp only[Zaf]at d0;have h63:i+1<=maxLen/\(i+1)*112<=140737488355328:=⟨yP,yE⟩;have iy:=Zaa h63;have au:=U.size;clear h1 h2 fm nc h63 gW c6;go_wp2_with fail
   refine a9.out.mono ?_;rintro e a3 ⟨a1,rfl,a2,af⟩;obtain⟨ae,aa,ab,ac,ad,ag,am,an,ap,ai,aj,ak,rfl⟩:=J _ _ _ _ a2;refine Z4D ?_;intro zo c7 eF re;rw[Zaq]at re;have hy:A2 I w a3 (fun q=>q<a3.heap.size/\some q≠(Value.slice e6 i gc).ownBlock) x [.int .u8 ae,aa,.slice ab ac ad,.int .u8 ag,.float .f64 am,an,ap,.slice ai aj ak]:=hI.wide a2 fun q b5=>by
    exact Z1U
   clear a2 mw l8 d0 d1 d2 d3 d4 d5 d6 d7;go_wp2_with (at_builtin;go_loud (refine Am (A2.Ab hI _) rfl _ _ 46 rfl w.heap.size 120 8 112 U5 Yw yH _ _ rfl zo _ _ rfl yF hy rfl yL uA uB yE ?_;intro ax ay aw cj aF al aD aB _))
   exact Z2P
  exact Z3b
def Y9 (cs:zP):Prop:=∃(A:Int) (F:zS) (G:Int) (D:Int) (q1:Nat) (H:zS) (O:Int) (T:zO) (J:Nat) (M:Nat),cs=[.int .u8 A,.string F,.int .i64 G,.int .u8 D,.float .f64 q1,.string H,.int .i64 O,.slice T J M]
theorem Fz:(prog.info? 124).map (fun i=>(i.size,i.bytes,i.zero.map fun z=>z.cells.size))=some (8,96,some 8):=yG
theorem Ff:prog.underlying 115=some (.slice 124):=yG
theorem Ajn {α:Type} {I:World->(Nat->Prop)->α->List Value->Prop} (hI:Cp I) (J:∀w S x cs,I w S x cs->Y9 cs) (gf:Nat) (aC:∀args w,(callFunc gf args).run prog w=.ok (.enter gf args) w) (l:List α) (v:Value) (w:zN) (n:Nat) (ah:n<=w.heap.size) (hlen:l.length<=100000) (a3:Al I 8 w (fun b=>b<n) l v)
  (hC:∀x∈l,∀cs X,Below w w X->I X (fun b=>b<n) x cs->Calls prog gf #[.agg cs.toArray] X fun e W=>∃Y,e=.returned (.agg Y.toArray)/\I W (fun b=>X.heap.size<=b/\b<W) x Y/\Below X X W):
  Calls prog 58 #[v,.func (.func gf) #[] #[]] w fun e w'=>∃a4,e=.returned a4/\Al I 8 w' (fun b=>w.heap.size<=b/\b<w') l a4/\Below w w w':=by
 obtain⟨aw,av,rfl,-,a2⟩:=a3.at
 have am:=Zaa a2
 have ak:=Zaa hC
 have a5:Au (A2 I w) w 124 8 w (l.take 0) (.slice none 0 0):=Au.nil _ _ _ _ _
 clear a2 hC a3
 go_enter func58,ntmps58
 go_wp2_with fail
 go_loopw [5,10] (fun u v wr=>∃i:Nat,i<=l/\v=.int .i64 i/\Au (A2 I w) w 124 8 wr (l.take i) u/\Below w w wr) (fun _ v _=>l.length - (intOf v).toNat)
 case atStart=>exact⟨0,Zap _,rfl,a5,Zai _ _⟩
 case round=>
  clear a5;obtain⟨i,ap,rfl,c6,U⟩:=hrel;have k8:(l.take i).length=i:=yJ;obtain⟨e6,gc,rfl,-⟩:=c6.P4 i k8;by_cases ao:i<l
  ·have aA:(i:Int) <l.length:=by omega
   obtain⟨b,o,rfl,ay,cs,h1,h2⟩:=am.out i ao;obtain⟨A,F,G,D,q1,H,T,V,M,O,rfl⟩:=J _ _ _ _ h2;refine Z3K ?_;intro fm nc j7 gW tc;have mw:Below w w (wr.alloc (.cells #[.int .u8 A,F,G,.int .u8 D,.float .f64 q1,H,T,.slice V M O] 124)):=U.alloc U.size _;have a6:=Zaa (ak.out l[i] j7 [.int .u8 A,F,G,.int .u8 D,.float .f64 q1,H,T,.slice V M O] _ mw (hI.below nc ((Af (w:=wr) (.cells #[.int .u8 A,F,G,.int .u8 D,.float .f64 q1,H,T,.slice V M O] 124)).mono vL)));have l8:=c6.alloc (A2.Ab hI _) (.cells #[.int .u8 A,F,G,.int .u8 D,.float .f64 q1,H,T,.slice V M O] 124);refine Z4d ?_;intro sg;generalize l[i]=x at*
   refine Z19 ?_;intro d0 d1 d2 d3 d4 d5 d6 d7;simp only[Zaf]at d0;have h63:i+1<=maxLen/\(i+1)*96<=140737488355328:=⟨yP,yE⟩;have iy:=Zaa h63;have an:=U.size;clear h1 h2 fm nc h63 gW c6;go_wp2_with fail
   refine a6.out.mono ?_;rintro e a1 ⟨Y,rfl,a0,af⟩;obtain⟨a9,a8,ae,aa,ag,ai,aj,ab,ac,ad,rfl⟩:=J _ _ _ _ a0;refine Z4D ?_;intro zo c7 eF re;rw[Zaq]at re;have hy:A2 I w a1 (fun q=>q<a1.heap.size/\some q≠(Value.slice e6 i gc).ownBlock) x [.int .u8 a9,a8,ae,.int .u8 aa,.float .f64 ag,ai,aj,.slice ab ac ad]:=hI.wide a0 fun q b5=>by
    exact Z1U
   clear a0 mw l8 d0 d1 d2 d3 d4 d5 d6 d7;go_wp2_with (at_builtin;go_loud (refine Am (A2.Ab hI _) rfl _ _ 115 rfl w.heap.size 124 8 96 Ff Fz yH _ _ rfl zo _ _ rfl yF hy rfl yL uA uB yE ?_;intro ar au aq cj aB al az ax _))
   exact Z2P
  exact Z3b
end
section
open Tryz Go.RowKit Go.Shelf
theorem Eu:(prog.info? 118).map (fun i=>(i.size,i.bytes,i.zero.map fun z=>z.cells.size))=some (5,64,some 5):=yG
theorem Ep:prog.underlying 116=some (.slice 118):=yG
theorem Au.Om {α:Type} {I:World->(Nat->Prop)->α->List Value->Prop} (hI:Cp I) {w w':zN} {lo K g:Nat} {e:TypeId} {l:List α} {v:Value} (h:Au (A2 I lo) lo e K w l v) (A:w.grownBy w' (some g)) (H:g<lo):Au (A2 I lo) lo e K w' l v:=by
 have G:=h.lt;obtain⟨D,h1,h2,h3⟩:=h;refine⟨D,h1.grown A ?_,h2,fun i a b=>?_⟩
 ·cases F:v.ownBlock with
  | none=>exact .inl rfl
  | some q=>right;intro e;cases e;have:=(G _ F).1;omega
 exact hI.wide (hI.block (h3 i a b) fun b U=>A.block b U.1.1 yJ) fun b U=>⟨⟨Zal U.1.1 A.size,U.1.2⟩,U.2⟩
theorem A4 {w:zN} {b:Nat} {cs:zP} {e:TypeId} {p:Nat×Nat} (h:w.heap[b]? =some (.cells cs.toArray e p)):w.rangeAt b 0 cs:=fun j v A=>by
 simp only[World.cell?,h,Zac];simpa using A
theorem Ab8 (m:Int) (s:List Ex) (i:Nat) (h:i<s):Fe m (s.take (i+1))=Fe m (s.take i)++[Fh m s[i]]:=by
 rw[Mt,Mt,Zay h,Zet];rfl
theorem Aep (m:Int) (s:List Ex):(Fe m s).length=s.length:=by rw[Mt];simp
theorem Aeq (m:Int) (t:Ex):∀(cs:zP) (w:zN) (n:Nat),t.size<=10000->n<=w->Ch w n t cs->
  Calls prog 79 #[.agg cs.toArray,m] w fun e w'=>∃a6,e=.returned (.agg a6.toArray)/\Fb w' w (Fh m t) a6/\Below w w w':=by
 refine Tree.ind (P:=fun t=>∀(cs:zP) (w:zN) (n:Nat),t.size<=10000->n<=w->Ch w n t cs->
  Calls prog 79 #[.agg cs.toArray,m] w fun e w'=>∃a6,e=.returned (.agg a6.toArray)/\Fb w' w (Fh m t) a6/\Below w w w') (fun l s aL=>?_) t
 intro cs w n bp ba aG
 obtain⟨k,num,name,cap⟩:=l
 obtain⟨a,c,rfl,bJ,aV⟩:=aG.open
 simp only[Df.cells,Zas,Zau]
 have hlen:s.length<=10000:=wS
 obtain⟨dq,gd⟩:=zL ((w.alloc (.cells #[k,.float .f64 num,name,cap,.slice a s c] 118)).alloc (.cells zX 118))
 refine Z30 ?_
 intro c0 gh
 have a2:dq.rangeAt w 0 [k,.float .f64 num,name,cap,.slice a s c]:=by rw[<-gd];exact Aa (Ae w _ 118) (Af _) yF
 have az:dq.heap[w.heap.size]? =some (.cells #[k,.float .f64 num,name,cap,.slice a s c] 118 (0,0)):=by rw[<-gd];exact((Af (w:=w.alloc (.cells #[k,.float .f64 num,name,cap,.slice a s c] 118)) (.cells zX 118)).block _ yF).trans (Zhe w _)
 have aU:dq.heap[w.heap.size+1]? =some (.cells zX 118 (0,0)):=by rw[<-gd];have:=Zhe (w.alloc (.cells #[k,.float .f64 num,name,cap,.slice a s c] 118)) (.cells zX 118);rwa[Zaq]at this
 have bcp:=Zaa az
 have ak:=Zaa aU
 have x2:=Zaa gh
 have d0:=a2 0 _ rfl
 have d1:=a2 1 _ rfl
 have d2:=a2 2 _ rfl
 have d3:=a2 3 _ rfl
 have d4:=a2 4 _ rfl
 have f4:dq.frozen? ⟨w,4,none⟩=false:=by simp[World.frozen?,az]
 simp only[Zac]at d0 d1 d2 d3 d4
 have br:=Zaa aL
 have bx:=Zaa aV
 clear aV aL az aU gh a2 aG
 rcases(show((k.toNat:Int)==10)=true/\m<cap\/((k.toNat:Int)==10)=true/\¬(m<cap)\/((k.toNat:Int)==10)=false from by
  cases h:((k.toNat:Int)==10)
  ·exact .inr (.inr rfl)
  by_cases h2:m<cap
  ·exact .inl ⟨rfl,h2⟩
  exact .inr (.inl ⟨rfl,h2⟩))with⟨aw,b2⟩ | aZ
 ·have a5:Fh m (.node ⟨k,num,name,cap⟩ s)=.node ⟨9,0,nY,0⟩ []:=by
   have:k=10:=by
    have:(k.toNat:Int)=10:=by simpa using aw
    exact Zha.1 yJ
   simp[Fh,this,b2]
  have aB:=Zaa a5;have a8:dq.there (w+1) 0 5:=by
   intro j ai;refine⟨?_,by simp[World.frozen?,ak.out]⟩;simp only[World.cell?,ak.out]
   match j,ai with
   | 0,_ | 1,_ | 2,_ | 3,_ | 4,_=>rfl
  have a4:=Zaa a8;clear a5 a8;go_enter func79,ntmps79
  go_wp2_with (refine Zil rfl 118 _ _ rfl (w.heap.size+1) 0 #[.int .u8 9,zD,nY,zE,zH] rfl rfl a4.out yG yL ?_)
  have A:=Ao dq (w+1) [.int .u8 9,zD,nY,zE,zH] 0;have a9:=Zar dq (w+1) 0 [.int .u8 9,zD,nY,zE,zH] a4.out;generalize dq.setCells (w+1) 0 [.int .u8 9,.float .f64 0,.string nY,.int .i64 0,.slice none 0 0]=b1 at A a9|-;refine Zho (Aq rfl _ _ _ _ _ rfl a9 yG yG) rfl ⟨_,rfl,?_,c0.grown A c0.size (fun r e=>yM)⟩;rw[aB.out];exact Tree.A6.shut (E:=Df.cells) (l:=⟨9,0,nY,0⟩) (Zap _) (.inl rfl)
 have a5:Fh m (.node ⟨k,num,name,cap⟩ s)=.node ⟨k,num,name,cap⟩ (Fe m s):=by
  have:¬(k=10/\m<cap):=by
   rintro⟨rfl,h⟩;rcases aZ with⟨_,h2⟩ | h2
   ·exact h2 h
   exact absurd h2 yH
  simp[Fh,this]
 have aB:=Zaa a5
 clear a5
 have bG:Au (A2 Cz (w+2)) (w+2) 118 5 dq (Fe m (s.take 0)) (.slice none 0 0):=Au.nil _ _ _ _ _
 have am:=As dq w 4 (.slice none 0 0)
 have b6:Au (A2 Cz (w+2)) (w+2) 118 5 (dq.setCell ⟨w,4,none⟩ (.slice none 0 0)) (Fe m (s.take 0)) (.slice none 0 0):=Au.nil _ _ _ _ _
 have ax:(dq.setCell ⟨w,4,none⟩ (.slice none 0 0)).heap[w.heap.size]? =some (.cells #[k,.float .f64 num,name,cap,zH] 118 (0,0)):=by
  exact Z23
 have ar:(dq.setCell ⟨w,4,none⟩ (.slice none 0 0)).heap[w.heap.size+1]? =some (.cells zX 118 (0,0)):=(am.block _ wZ yF).trans ak.out
 have aF:Below w w (dq.setCell ⟨w,4,none⟩ (.slice none 0 0)):=c0.grown am c0.size (fun r e=>yM)
 have an:(dq.setCell ⟨w,4,none⟩ (.slice none 0 0)).heap.size=w.heap.size+2:=by have:=x2.out;simp[World.setCell,this]
 obtain⟨bH,bb⟩:=zL (dq.setCell ⟨w,4,none⟩ (.slice none 0 0))
 rw[bb]at b6 ax ar aF an
 have bF:=Zaa ax
 have bz:=Zaa ar
 have bg:=Zaa an
 clear bG ax ar an am
 rcases aZ with⟨aw,b2⟩ | aw<;>
 ·go_enter func79,ntmps79
  go_wp2_with fail
  go_loopw [23] (fun v wr=>∃(i:Nat) (u:Value),i<=s/\v=.int .i64 i/\Au (A2 Cz (w+2)) (w+2) 118 5 wr (Fe m (s.take i)) u/\wr.heap[w.heap.size]? =some (.cells #[k,.float .f64 num,name,cap,u] 118 (0,0))/\wr.heap[w.heap.size+1]? =some (.cells zX 118 (0,0))/\Below w w wr/\w.heap.size+2<=wr) (fun v _=>s.length - (intOf v).toNat)
  case atStart=>exact⟨0,_,Zap _,rfl,b6,bF.out,bz.out,aF,by have:=bg.out;omega⟩
  case round=>
   obtain⟨i,u,bI,rfl,a0,a7,a3,U,bO⟩:=hrel;have T:(Fe m (s.take i)).length=i:=by rw[Aep,Zbo];omega
   obtain⟨F,gc,rfl,-⟩:=a0.shape;rw[T]at a7;by_cases ao:i<s
   ·have bR:(i:Int) <s.length:=by omega
    rcases bx.out with e | ⟨b,o,rfl,bP,aK⟩
    ·rw[e]at ao;simp at ao
    obtain⟨bM,h1,h2⟩:=aK i ao;have fm:=Aa h1 U yE;have bA:=h2.below (U.mono ba);obtain⟨z0,G,z2,z3,H,M,z9,rfl⟩:=Ch.G2 h2;refine Z49 ?_;intro d0 d1 d2 d3 d4;simp only[Zaf]at d0;rw[T]at a0;have aJ:=Zaa a7;have bu:=Zaa a3;clear a7 a3 h1 h2 fm aK;go_wp2_with fail
    obtain⟨ay,ic⟩:=zL (wr.alloc (.cells #[z0,.float .f64 G,z2,z3,.slice H M z9] 118));rw[ic];have bt:Below wr wr ay:=wH;have np:ay.heap.size=wr+1:=xS;have b4:ay.rangeAt wr 0 [z0,.float .f64 G,z2,z3,.slice H M z9]:=by rw[<-ic];exact Ae wr [z0,.float .f64 G,z2,z3,.slice H M z9] _
    clear ic d0 d1 d2 d3 d4;refine Z4y ?_;intro ee c9;have af:((ay.drewN 1).rangeAt w 4 [.slice F i gc]/\(ay.drewN 1).rangeAt wr 0 [z0,.float .f64 G,z2,z3,.slice H M z9]):=⟨fun j v ah=>by
     cases j with
     | zero=>simp only[Zad,Zbb]at ah;subst ah;exact(Zaw (a:=⟨w,4,none⟩) (c9.block w yE)).trans (A4 aJ.out 4 _ rfl)
     | succ j=>simp at ah,Ag b4 yO⟩
    refine Z56 ?_;intro j4;refine C1 [(0,.inl none),(1,.inl (some 0)),(2,.inl (some 0)),(3,.inl none),(4,.inr [0]),(5,.inr [0]),(6,.inr []),(7,.inl none),(8,.inr [])]
     (fun _ W=>W.rangeAt w 4 [.slice F i gc]/\W.rangeAt wr 0 [z0,.float .f64 G,z2,z3,.slice H M z9]) yG yG (fun _=>af) ?_
    refine Z3s ?_;have aC:Ch (ay.drewN 1) n s[i] [z0,.float .f64 G,z2,z3,.slice H M z9]:=bA.below (c9.mono vL);have av:=br.out s[i] (Zat ao) [z0,.float .f64 G,z2,z3,.slice H M z9] (ay.drewN 1) n vS yE aC;have ma:=a0.below (A2.Ab Cz.Ab _) c9 (Zab _);have aA:=(c9.block w yE).trans aJ.out;have au:=(c9.block (w+1) yE).trans bu.out;have aW:Below w w (ay.drewN 1):=U.trans (c9.mono U.size);generalize ay.drewN 1=bK at af aC av c9 j4 ma aA au aW|-;have V:=Zaa af;have bc:=Zaa aA;have bD:=Zaa au;have aD:=Zaa (Ab8 m s i ao);clear ee aC af aA au a0 b4 np bt;refine Z02 ?_;refine Av (.slice F i gc) yI (fun w' ab=>?_) (fun K J=>?_)
    ·have bC:=ab.1 0 _ rfl
     simp only[Zaf]at bC;go_simp
    refine Z2n ?_;clear J K;refine Av (.agg #[z0,.float .f64 G,z2,z3,.slice H M z9]) yI (fun w' ab=>?_) (fun K J=>?_)
    ·have aq:=ab.2 0 _ rfl
     exact Z1O
    refine Z2n ?_;clear J K;refine Z02 ?_;refine Ci (fun K J=>?_) (Bg V.out);go_wp2_with fail
    refine av.mono ?_;rintro e aj ⟨bL,rfl,aa,D⟩;generalize Fh m s[i]=bd at aa aD;obtain⟨⟨b3,aO,aN,aM⟩,aY⟩:=bd;obtain⟨bs,bm,rfl⟩:=Ch.shape (Fb.in aa);simp only[Tree.Ak,Tree.Cb]at aa|-;go_wp2_with fail
    refine J _ _ (Bg ⟨Aa V.out.1 D yE,Aa V.out.2 D yE⟩) ?_;clear J K;have b5:=ma.below (A2.Ab Cz.Ab _) D (Zab _);have b9:=(D.block w yE).trans bc.out;have b8:=(D.block (w+1) yE).trans bD.out;have bo:Below w w aj:=aW.trans (D.mono yE);have bS:=D.size;have aH:A2 Cz (w+2) aj (fun b=>b<aj/\some b≠(Value.slice F i gc).ownBlock) (.node ⟨b3,aO,aN,aM⟩ aY) [b3,.float .f64 aO,aN,aM,.slice bs aY bm]:=
     Tree.A6.mono aa fun b ac=>⟨⟨ac.2,fun e=>sM⟩,yE⟩
    have bj:=Zaa aH;have bq:=Zaa b9;have bk:=Zaa b8;have aX:=Zaa (show i+1<=maxLen/\(i+1)*64<=140737488355328 from⟨yP,yE⟩);have aT:=T;generalize bQ:Fe m (s.take i)=O at aT b5 aD;subst aT;clear aH b9 b8 av aa ma;refine Ci (fun K J=>?_) (Bg ⟨Aa V.out.1 D yE,Aa V.out.2 D yE⟩);go_wp2_with fail
    refine J _ _ (Bg ⟨Aa (Aa V.out.1 D yE) (Af _) yE,Aa (Aa V.out.2 D yE) (Af _) yE⟩) ?_;clear J K;refine Ci (fun K J=>?_) yF;refine Am (A2.Ab Cz.Ab _) rfl _ _ 116 rfl (w.heap.size+2) 118 5 64 Ep Eu yH O _ rfl b5 _ _ rfl rfl bj.out rfl yL aX.out.1 aX.out.2 yE ?_;intro ad ae Y b0 bY ap bV bU bX;refine Z4P ?_;clear J K;have ag:=(ap.block w yE).trans bq.out;have aI:=(ap.block (w+1) yE).trans bk.out;have aS:Below w w Y:=bo.trans (ap.mono yE);have bw:Y.cell? ⟨w,4,none⟩=some (.slice F O gc):=A4 ag 4 _ rfl;have f7:Y.frozen? ⟨w,4,none⟩=false:=by simp[World.frozen?,ag]
    have bf:=Zaa ag;have bE:=Zaa aI;clear ag aI;refine Z02 ?_;refine Ci (fun K J=>?_) yF;go_wp2_with fail
    refine J _ _ yF ?_;clear J K;have A:=As Y w 4 (.slice ad (O+1) ae);have al:(Y.setCell ⟨w,4,none⟩ (.slice ad (O+1) ae)).heap[w.heap.size]? =some (.cells #[k,.float .f64 num,name,cap,.slice ad (O+1) ae] 118 (0,0)):=by
     simp only[World.setCell,Zby,Zia,bf.out,Zaj,Zgn];simp
    generalize Y.setCell ⟨w,4,none⟩ (.slice ad (O+1) ae)=b1 at A al|-;have aR:=b0.Om Cz.Ab A yE;have aE:=(A.block (w+1) yE yF).trans bE.out;have bB:=aS.grown A aS.size (fun r e=>yM);have bN:=A.size;have bi:=Zaa aR;have be:=Zaa al;have bl:=Zaa aE;clear aR al aE b0 bw f7;refine C7 ?_;go_wp2_with fail
    go_roundw
    case rel=>exact⟨O+1,_,yE,yK,by rw[aD.out];exact bi.out,be.out,bl.out,bB,yE⟩
    case measure=>simp[intOf];omega
   obtain rfl:i=s:=by omega
   refine Z1e ?_;intro fe;rw[Zbk]at a0 T;have a1:=A4 a7;refine Z2Z ?_;intro d0 d1 d2;have d3:=a1 3 _ rfl;have d4:=a1 4 _ rfl;simp only[Zac]at d0 d1 d2 d3 d4;have a8:wr.there (w+1) 0 5:=by
    intro j ai;refine⟨?_,by simp[World.frozen?,a3]⟩;simp only[World.cell?,a3]
    match j,ai with
    | 0,_ | 1,_ | 2,_ | 3,_ | 4,_=>rfl
   have a4:=Zaa a8;have hF:=a0.fresh Cz.Ab;have bv:=Zaa hF;clear a8 a1 hF a3 a7;go_wp2_with (refine Zil rfl 118 _ _ rfl (w.heap.size+1) 0 #[k,.float .f64 num,name,cap,.slice F s gc] rfl rfl a4.out yG yL ?_)
   have A:=Ao wr (w+1) [k,.float .f64 num,name,cap,.slice F s gc] 0;have a9:=Zar wr (w+1) 0 [k,.float .f64 num,name,cap,.slice F s gc] a4.out;generalize wr.setCells (w+1) 0 [.int .u8 k.toNat,.float .f64 num,.string name,.int .i64 cap,.slice F s gc]=b1 at A a9|-;refine Zho (Aq rfl _ _ _ _ _ rfl a9 yG yG) rfl ⟨_,rfl,?_,U.grown A U.size (fun r e=>yM)⟩;rw[aB.out];obtain⟨bW,bT,aP,aQ,bn⟩:=bv.out;rw[T]at aP aQ;cases aP;refine Tree.A6.mono (Tree.A6.block (w:=wr) (S:=fun b=>w+2<=b/\b<wr) ?_ (fun b ac=>A.block b ac.2 yJ)) (fun b ac=>⟨yE,Zal ac.2 A.size⟩);have b7:=Tree.A6.shut (E:=Df.cells) (K:=5) (w:=wr) (S:=fun b=>w+2<=b/\b<wr) (l:=⟨k,num,name,cap⟩) (s:=Fe m s) (a:=F) (c:=gc) (by rw[T];exact aQ) bn;rw[T]at b7;exact b7
end
section
open Tryz Go.RowKit Go.Shelf
def Jo (l:zQ) (i:Nat):Nat:=if h:0<l.length then(l[i%l.length]'(Zgd _ h)).toNat else 0
theorem U0 (l:zQ) (i:Nat):Jo l i<256:=by
 unfold Jo;split
 ·exact Zhb _
 omega
theorem Rq (l:zQ) (i b:Nat) (w:zN) (n:Nat) (a:zO) (cap:Nat) (U:n<=w) (T:i<=100) (hlen:l.length<=maxLen) (G:w.cell? ⟨b,1,none⟩=some (.slice a l cap)) (F:Bs w n 1 a (l.map fun x=>[Value.int .u8 x.toNat])):
  Calls prog 19 #[i,zK b] w fun e w'=>e=.returned (.int .i64 (Jo l i))/\Below w w w':=by
 by_cases h0:0<l.length
 ·rcases F with e | ⟨b2,o,rfl,W,D⟩
  ·rw[Zbr]at e;rw[e]at h0;simp at h0
  have ao:=Zgd i h0;have A:Jo l i=(l[i%l.length]'ao).toNat:=by simp[Jo,h0]
  have h1:=(D (i%l.length) xX).1 0 _ (by rw[Zbh];rfl);simp only[Zaf,Zba]at h1;have J:=Zhb (l[i%l.length]'ao);generalize(l[i%l.length]'ao)=x at h1 A J;have H:((i:Int)).tmod (l.length:Int)=((i%l.length:Nat):Int):=by rw[Zbg yE];simp
  generalize i%l=q at h1 ao H;have M:=Zaa A;have V:¬((l.length:Int)=0):=yE;clear A D;go_enter func19,ntmps19
  go_wp2_with fail
  go_quiet (fail)
  go_wp2_with fail
  go_ret;rw[M.out];exact⟨rfl,below_drewN (Zai _ _) (Zab _) _⟩
 have O:l=[]:=Zeo.1 yE
 subst O
 have A:Jo [] i=0:=by simp[Jo]
 rw[A]
 simp only[Zav]at G
 go_enter func19,ntmps19
 exact Z1K
end
section
open Tryz Go.RowKit
theorem Fu {α:Type} {l:List α} (h:l≠[]):∃a x,l=a++[x]:=⟨l.dropLast,l.getLast h,(List.dropLast_concat_getLast h).symm⟩
def Qq:List Value->Nat->List Value->List Value
 | xs,_,[]=>xs
 | xs,j,v::r=>Qq (xs.set j v) (j+1) r
theorem Rw:∀(cs x f1 f2:zP),x.length=cs->Qq (f1++x++f2) f1 cs=f1++cs++f2
 | [],x,f1,f2,h=>by
  obtain rfl:x=[]:=Zeo.1 yV;rfl
 | v::r,[],f1,f2,h=>yX
 | v::r,u::x,f1,f2,h=>by
  have A:=Rw r x (f1++[v]) f2 yV;simp only[Qq];have e:(f1++u::x++f2).set f1 v=(f1++[v])++x++f2:=by
   rw[Zdj,Zfh _ _ (Zab _)];simp
  rw[e,show f1.length+1=(f1++[v]).length from yF,A];simp
theorem Nj {base e size g cap n:Nat}:∀(cs:zP) (j:Nat) (w:zN) (xs:zP),w.ownsRow base e size (.slice (some ⟨g,0,none⟩) n cap) n xs->
  (w.setCells g j cs).ownsRow base e size (.slice (some ⟨g,0,none⟩) n cap) n (Qq xs j cs)
 | [],_,_,_,h=>h
 | v::r,j,w,xs,h=>Nj r (j+1) _ _ (h.stored j v).1
section
variable {w w':zN} {lo K m:Nat} {e:TypeId} {v:Value} {ai:List (List Value)}
theorem Dc.there {g n c:Nat} (h:Dc w lo e K (.slice (some ⟨g,0,none⟩) n c) ai) (i:Nat) (A:i<ai):w.there g (i*K) K:=by
 obtain⟨J,O,G,-⟩:=h.shape;have F:n=ai:=by injection G
 subst F;rcases h.at_ with h0 | ⟨U,V,H,-,-,D⟩
 ·rw[h0]at A;simp at A
 injection H with h1 h2 h3;injection h1 with h1;injection h1 with h1;subst h1;intro j M;have T:=h.2 _ (Zat A);refine⟨?_,h.1.frozenAt _⟩;have:=D i A j ai[i][j] (Zam yE);rw[Zac]at this;rw[this];rfl
theorem Dc.F5 {g n c:Nat} {x cs:zP} (h:Dc w lo e K (.slice (some ⟨g,0,none⟩) n c) (ai++[x])) (G:cs=K):Dc (w.setCells g (ai*K) cs) lo e K (.slice (some ⟨g,0,none⟩) n c) (ai++[cs]):=by
 obtain⟨J,M,F,-⟩:=h.shape;have D:n=(ai++[x]).length:=by injection F
 subst D;have h1:=Nj cs (ai*K) w _ h.1;have A:=h.2 x yF;have H:ai.flatten.length=ai*K:=by
  have h2:=h.1.1;simp only[Zdx,Zbj,Zdy,List.flatten_nil,Zdk,Zao,Zav]at h2;rw[A,Zfy]at h2;omega
 refine⟨?_,fun y hy=>?_⟩
 ·have h3:=Rw cs x ai.flatten [] yE
  rw[H]at h3;simp only[Zdk]at h3;rw[Zdx,Zdy,List.flatten_nil,Zdk,h3]at h1;simpa using h1
 rcases Zew.1 hy with hy | hy
 ·exact h.2 y (by simp[hy])
 simp at hy;rw[hy,G]
end
section
variable {α:Type} {I:World->(Nat->Prop)->α->List Value->Prop} {w w':zN} {lo K m:Nat} {e:TypeId} {v:Value} {l:List α}
theorem Au.at (h:Au I lo e K w l v):l=[]\/∃g c,v=.slice (some ⟨g,0,none⟩) l.length c/\lo<=g/\g<w.heap.size/\∀i (A:i<l.length),∃cs,cs.length=K/\w.rangeAt g (i*K) cs/\I w (fun b=>b<w.heap.size/\b≠g) l[i] cs/\w.there g (i*K) K:=by
 obtain⟨ai,h1,h2,h3⟩:=h;rcases h1.at_ with h0 | ⟨g,c,F,H,G,D⟩
 ·left;rw[h0]at h2;exact Zeo.1 h2.symm
 ·subst F
  refine .inr ⟨g,c,by rw[h2],H,G,fun i A=>⟨ai[i]'(by omega),h1.2 _ (Zat _),?_,?_,h1.there i (by omega)⟩⟩
  ·have:=D i (by omega)
   rwa[Zac]at this
  ·have J:(fun b=>b<w.heap.size/\some b≠(Value.slice (some ⟨g,0,none⟩) ai.length c).ownBlock)=fun b=>b<w.heap.size/\b≠g:=by
    funext b
    simp[Value.ownBlock]
   rw[<-J];exact h3 i A (by omega)
theorem Au.F5 (hI:Cp I) {g n c:Nat} {T y:α} {cs:zP} (h:Au I lo e K w (l++[T]) (.slice (some ⟨g,0,none⟩) n c)) (M:cs=K) (hy:I w (fun b=>b<w/\b≠g) y cs):
  Au I lo e K (w.setCells g (l*K) cs) (l++[y]) (.slice (some ⟨g,0,none⟩) n c):=by
 have a0:=(h.lt g rfl).2
 have G:=Ao w g cs (l*K)
 have W:∀s:Nat,(fun b=>b<s/\some b≠(Value.slice (some ⟨g,0,none⟩) n c).ownBlock)=fun b=>b<s/\b≠g:=fun s=>by
  funext b
  simp[Value.ownBlock]
 have H:∀(y:α) (A:zP),I w (fun b=>b<w/\b≠g) y A->I (w.setCells g (l*K) cs) (fun b=>b< (w.setCells g (l*K) cs).heap.size/\b≠g) y A:=fun y A V=>
  hI.wide (hI.block V fun b U=>G.block b U.1 (by simpa using U.2)) fun b U=>⟨Zal U.1 G.size,U.2⟩
 obtain⟨ai,h1,h2,h3⟩:=h
 rw[Zbj]at h2
 simp only[Zao,Zav,Zac]at h2
 have O:ai≠[]:=fun e=>by rw[e]at h2;simp at h2
 obtain⟨F,x,rfl⟩:=Fu O
 have D:F.length=l:=by simpa using h2
 refine⟨F++[cs],by rw[<-D];exact h1.F5 M,by simp[D],fun i a b=>?_⟩
 rw[W]at h3|-
 by_cases J:i<l
 ·have h4:=h3 i yJ yJ
  rw[Zei J,Zei yE]at h4|-;exact H _ _ h4
 have Y:i=l:=by simp at a;omega
 subst Y
 rw[Zbn yE,Zbn yE]
 simp only[D,Zgj,Zek]
 exact H _ _ hy
end
variable {P:Program}
theorem J2 {α:Type} {I:World->(Nat->Prop)->α->List Value->Prop} (hI:Cp I) {ops:Array Oper} {rest:List Oper} {o:Oper} {a:Act} {Q:Exit->Act->World->Prop} {w:zN} (au:o.guard=none) (s x:Operand) (t:TypeId)
  (al:o.op=.call {callee:=.builtin .append,args:=#[s,x],argTypes:=#[t,t]})
  (lo:Nat) (e:TypeId) (K bytes:Nat) (ap:P.underlying t=some (.slice e)) (ae:(P.info? e).map (fun i=>(i.size,i.bytes,i.zero.map fun z=>z.cells.size))=some (K,bytes,some K)) (J:0<K)
  (l:List α) (W:zO) (n c m:Nat) (ah:a.eval s=.slice W m m) (ag:Au I lo e K w l (.slice W n c)) (hm:m<=l) (y:α) (cs:zP) {a2:Nat} (A:a.eval x=.slice (some ⟨a2,0,none⟩) 1 1) (ay:a2=w)
  (hy:I w (fun b=>b<w.heap.size) y cs) (aj:cs=K) (h1:∀u∈cs,u.oneCell'=true)
  (h63:m+1<=maxLen) (ac:(m+1)*bytes<=140737488355328) (aF:lo<=w)
  (h:∀G F w',Au I lo e K w' (l.take m++[y]) (.slice G (m+1) F)->m+1<=F->Below w w w'->w.heap.size<w'.heap.size->wpList P ops Q rest (a.put o.dst (.slice G (m+1) F)) w'):
  wpList P ops Q (o::rest) a (w.alloc (.cells cs.toArray e)):=by
 subst ay
 obtain⟨ai,g1,g2,g3⟩:=ag
 obtain⟨i,z,aw,H,ao,af,az⟩:∃i z,P.info? e=some i/\i.zero=some z/\i.size=K/\i.bytes=bytes/\z.cells.size=K:=by
  cases hp:P.info? e with
  | none=>rw[hp]at ae;cases ae
  | some i=>
   rw[hp]at ae;simp only[Zaj,Zbb,Zgr]at ae;cases H:i.zero with
   | none=>rw[H]at ae;simp at ae
   | some z=>rw[H]at ae;exact⟨i,z,rfl,H,ae.1,ae.2.1,uH⟩
 have an:∀(d:List (List Value)),(∀x∈d,x.length=K)->d.flatten.length=d*K:=fun d=>by
  induction d with
  | nil=>simp
  | cons x r am=>
   intro a5;rw[Zdy,Zbj,am (fun y hy=>a5 y (by simp[hy])),a5 x yF,Zao,Zfy];omega
 have aa:∀x∈ai.take m,x.length=K:=fun x A=>g1.2 x (Zfc A)
 have D:(ai.take m).length=m:=wQ
 have T:(ai.take m).flatten.length=m*K:=by rw[an _ aa,D]
 refine wpList_append_grows _ au s x t al e i z K bytes ap aw H ao af az J W m m (ai.take m).flatten ah ?_ T ?_ ⟨w,0,none⟩ 1 1 cs A yE (Ra w cs e) h1 yE h63 ac ?_
 ·rintro rfl
  rcases g1.1.2 with⟨h5,h6⟩ | ⟨g,cap,cur,h5,_⟩
  ·constructor<;>omega
  injection h5 with h5;cases h5
 ·rintro b rfl j u M
  have a0:=g1.below (Bq w (.cells cs.toArray e)) (Zab _);obtain⟨aB,aA,av,-⟩:=a0.shape;injection av with aC aD aE;rcases a0.1.2 with⟨h5,h6⟩ | ⟨g,cap,cur,h5,_⟩
  ·cases h5
  injection h5 with h5 h6 h7;injection h5 with h5;subst h5;refine a0.1.cells (g:=g) rfl j u ?_;have a1:j<m*K:=by rw[<-T];exact(Zeg.1 M).1
  rw[<-Zfo m ai,Zdx,Zbp (by rw[T];exact a1)];exact M
 intro a7 w' q1 a6
 have a4:=Bq w (.cells cs.toArray e)
 have a8:Below w w w':=a4.grown a6 a4.size (fun r e=>yW)
 have ak:=a6.size
 rw[Zaq]at ak q1
 have Y:Dc w' lo e K a7 (ai.take m++[cs]):=by
  refine⟨?_,fun x A=>?_⟩
  ·have:=Du q1 (show lo<=w+1 from yE)
   simpa[D,Zdx]using this
  rcases Zew.1 A with A | A
  ·exact aa x A
  simp at A;rw[A,aj]
 have a9:∀k,a7.ownBlock=some k->w.heap.size+1<=k:=fun k ad=>(q1.lt k ad).1
 obtain⟨G,F,rfl,a3⟩:=Y.shape
 have hlen:(ai.take m++[cs]).length=m+1:=by simp[D]
 rw[hlen]at a3 a9 Y|-
 have ab:∀(S:zT) (y:α) (V:zP),(∀b,S b->b<w.heap.size)->I w S y V->I w' (fun b=>b<w'.heap.size/\some b≠(Value.slice G (m+1) F).ownBlock) y V:=fun S y V O aq=>
  hI.wide (hI.block aq fun b U=>a8.block b (O b U)) fun b U=>⟨by have:=O b U;omega,fun ar=>by have:=a9 b ar.symm;have:=O b U;omega⟩
 refine h G F w' ⟨ai.take m++[cs],Y,by simp[D];omega,fun j aG ax=>?_⟩ a3 a8 yE
 by_cases M:j<m
 ·rw[Zei wQ,Zei (by rw[D];exact M)]
  simp only[Zen];exact ab _ _ _ (fun b U=>U.1) (g3 j yE yE)
 have a1:j=m:=by simp[D]at ax;omega
 subst a1
 rw[Zbn wQ,Zbn yE]
 simp only[D,Zbo,Zgb hm,Zgj,Zek]
 exact ab _ _ _ (fun b U=>U) hy
end
end Go.Proofs.YtafmoofknjncpaaGreatDoor
