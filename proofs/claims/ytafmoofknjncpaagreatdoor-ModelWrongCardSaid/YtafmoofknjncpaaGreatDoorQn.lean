/- A part of the proof that ModelWrong holds: its theorems stand as they are typed. -/
import Derived.Test.YtafmoofknjncpaaGreatDoorQh
import Derived.Test.YtafmoofknjncpaaGreatDoorQm
set_option linter.all false
set_option maxRecDepth 100000
set_option maxHeartbeats 8000000
namespace Go.Proofs.YtafmoofknjncpaaGreatDoor
open Tryz Go.RowKit Go.Shelf
abbrev Pw:=ByteArray×Bb×ByteArray
def Tb:List Pw:=[(⟨#[120,121,120,121]⟩,Aaz,Lm),(⟨#[97,98,99,100,101]⟩,Aay,Lm),(⟨#[97,98,46,46]⟩,Aax,Jr),(⟨#[97,98,46,46,113]⟩,Aaw,Jr),(⟨#[120,33]⟩,Aga,Lm),(⟨#[122,122,33]⟩,Aav,Jr)]
def Pw.cells (x:Pw) (A:Value):List Value:=[.string x.1,A,.int .u8 x.2.1.Ec,.int .i64 x.2.1.Es,.string (Dm x.2.1.Bd),.int .i64 x.2.1.low,.string x.2.2,.float .f64 x.2.1.x]
def Arz (w:zN) (S:zT) (x:Pw) (cs:zP):Prop:=∃A,cs=x.cells A/\Al D6 4 w S x.2.1.A5 A
def Apj (x:Pw) (D:zO) (A g gc:Nat):List Value:=[.slice D x.2.1.A5 A,.int .u8 x.2.1.Ec,.int .i64 x.2.1.Es,.string x.2.2,.string (Dm x.2.1.Bd),.int .i64 x.2.1.low,.int .i64 x.2.1.Az,.slice (some ⟨g,0,none⟩) 1 gc]
def Uv (x:Pw) (X:zN) (D:zO) (A g gc:Nat):Prop:=Al D6 4 X (fun b=>b<X) x.2.1.A5 (.slice D x.2.1.A5 A)/\g<X/\X.rangeAt g 0 (Fs x.2.1.x)
theorem Uv.C4 {x:Pw} {X Y:zN} {F:zO} {D g gc:Nat} (h:Below X X Y) (A:Uv x X F D g gc):Uv x Y F D g gc:=
 ⟨(Al.Ab D6.Ab).mono ((Al.Ab D6.Ab).below A.1 h) h.size,Zal A.2.1 h.size,Aa A.2.2 h A.2.1⟩
theorem Aqf {X:zN} {b A G:Nat} {k:Int} {lo J:Int} {s:zS} (O:Ar X b 62 zW) (D:X.rangeAt A G [.int .u8 k,lo,J,s]):A≠b:=by
 rintro rfl;have h0:=D 0 _ rfl;have h2:=D 2 _ rfl;have H:∀j v,X.cell? ⟨A,j,none⟩=some v->(zW:List Value)[j]? =some v:=fun j v F=>by
  have U:X.heap[A]? =_:=O;simp only[World.cell?,U]at F;simpa using F
 have T:=H _ _ h0;have M:=H _ _ h2
 match G,T,M with
 | 0,e,_=>simp at e
 | 1,_,e=>simp at e
 | 2,e,_=>simp at e
 | 3,e,_=>simp at e
 | 4,e,_=>simp at e
 | 5,e,_=>simp at e
 | 6,e,_=>simp at e
 | 7,e,_=>simp at e
 | _+8,e,_=>simp at e
theorem Aby {w X:zN} {b:Nat} {l:List S5} {v:Value} (H:w.grownBy X (some b)) (Y:Ar w b 62 zW) (h:Al D6 4 w (fun k=>k<w) l v):Al D6 4 X (fun k=>k<X) l v:=by
 obtain⟨D,F,M,T,h0 | ⟨b',a1,V,O,J⟩⟩:=h
 ·exact⟨D,F,M,T,.inl h0⟩
 refine⟨D,F,M,T,?_⟩;rcases Zfz l.length with A | A
 ·exact .inl (Zds A)
 obtain⟨a2,G,q1⟩:=J 0 A;cases q1;have W:=Aqf Y (by rw[Zgl,Zaf]at G;exact G);exact .inr ⟨b',a1,V,Zal O H.size,fun i U=>by
  obtain⟨a0,s1,s2⟩:=J i U;exact⟨a0,Ag s1 (H.block b' O (B4 W)),s2⟩⟩
def R7 (x:Pw) (H:zN) (J:Nat) (G:zO) (A:Nat) (v6 v7:Value) (X:zN):Prop:=
 ∃F D g gc b,v6=.pointer (some ⟨b,0,none⟩)/\v7=.int .i64 0/\Ar X b 62 (Apj x F D g gc)/\Ar X J 80 [x.1,.slice G x.2.1.A5 A,.int .u8 x.2.1.Ec,x.2.1.Es,.string (Dm x.2.1.Bd),x.2.1.low,x.2.2,.float .f64 x.2.1.x]/\X.rangeAt g 0 (Fs x.2.1.x)/\g<X.heap.size/\
  Al D6 4 X (fun k=>k<X) x.2.1.A5 (.slice F x.2.1.A5 D)/\Al D6 4 X (fun k=>k<X) x.2.1.A5 (.slice G x.2.1.A5 A)/\Below H H X
theorem Agy {x:Pw} {J W:zN} {O b g D gc M:Nat} {F T:zO} (H:Ar W b 62 zW) (G:Uv x W F D g gc) (a0:Ar W O 80 [x.1,.slice T x.2.1.A5 M,.int .u8 x.2.1.Ec,x.2.1.Es,.string (Dm x.2.1.Bd),x.2.1.low,x.2.2,.float .f64 x.2.1.x]) (a3:O≠b)
  (a1:Al D6 4 W (fun k=>k<W) x.2.1.A5 (.slice T x.2.1.A5 M)) (U:Below J J W) (Y:J<=b):R7 x J O T M (.pointer (some ⟨b,0,none⟩)) (.int .i64 0) (W.setCells b 0 [.slice F x.2.1.A5 D,.int .u8 x.2.1.Ec,x.2.1.Es,x.2.2,.string (Dm x.2.1.Bd),x.2.1.low,x.2.1.Az,.slice (some ⟨g,0,none⟩) 1 gc]):=by
 have A:=Ao W b [.slice F x.2.1.A5 D,.int .u8 x.2.1.Ec,x.2.1.Es,x.2.2,.string (Dm x.2.1.Bd),x.2.1.low,x.2.1.Az,.slice (some ⟨g,0,none⟩) 1 gc] 0
 have a4:g≠b:=by
  rintro rfl;have V:=G.2.2 0 _ rfl;have a5:=H.cell (j:=0) rfl;rw[Zaf,a5]at V;cases V
 have hF:=H.fill (vs:=[.slice F x.2.1.A5 D,.int .u8 x.2.1.Ec,x.2.1.Es,x.2.2,.string (Dm x.2.1.Bd),x.2.1.low,x.2.1.Az,.slice (some ⟨g,0,none⟩) 1 gc]) rfl
 have a2:=U.size
 generalize W.setCells b 0 [.slice F x.2.1.A5 D,.int .u8 x.2.1.Ec,.int .i64 x.2.1.Es,.string x.2.2,.string (Dm x.2.1.Bd),.int .i64 x.2.1.low,.int .i64 x.2.1.Az,.slice (some ⟨g,0,none⟩) 1 gc]=X at A hF|-
 exact⟨F,D,g,gc,b,rfl,rfl,hF,a0.grown A (B4 a3),Ag G.2.2 (A.block g G.2.1 (B4 a4)),Zal G.2.1 A.size,Aby A H G.1,Aby A H a1,U.grown A a2 (fun r e=>by cases e;exact Y)⟩
theorem Aku (cs:zP) (w:zN) (A:Br w w A9 cs):∀x∈Tb,K0 cs w (Nr x.1) x.2.1 x.2.2/\x.1.size<=60/\x.2.1.A5.length<=1000/\x.2.1.x<2^64/\Gq x.2.1.x=false:=by
 simp only[Tb,Zed];exact⟨⟨Aq9 cs w A,yH,yH,yH,yG⟩,⟨Aq8 cs w A,yH,yH,yH,yG⟩,⟨Aq7 cs w A,yH,yH,yH,yG⟩,⟨Aq6 cs w A,yH,yH,yH,yG⟩,⟨Aq5 cs w A,yH,yH,yH,yG⟩,⟨Aq4 cs w A,yH,yH,yH,yG⟩,yF⟩
attribute [local irreducible] Dn C8
theorem Ajw (w:zN):Calls prog 4 #[] w fun e w'=>e=.returned (.bool true)/\Below w w w':=by
 go_enter func4,ntmps4
 go_wp2_with fail
 refine(Aej w).mono ?_;rintro e aq ⟨cs,rfl,cm,aO,aL⟩;obtain⟨Y,a0,a6,a5,rfl⟩:∃Y a0 a6 a5,cs=[.int .i64 A9.Aj,.slice Y A9.An a0,.slice a6 A9.Ac a5]:=by
  obtain⟨v,u,rfl,⟨Y,a0,rfl,_⟩,a6,a5,rfl,_⟩:=id aO;exact⟨Y,a0,a6,a5,rfl⟩
 have au:=Zaa aO;have b5:=aL.size;go_upto_region 4 with fail
 obtain⟨bX,bI,a3,aM,-⟩:=Bx aq [A9.Aj,.slice Y A9.An a0,.slice a6 A9.Ac a5] 30;rw[bI];clear bI cm aO;have aG:=aM.size;have ar:=a3;generalize A9.Aj=bd at au a3 ar|-;generalize A9.An.length=bc at au a3 ar|-;generalize A9.Ac.length=es at au a3 ar|-;go_wp2_with fail
 refine(O8 0 2 bX).mono ?_;rintro e bY ⟨rfl,aN⟩;have ak:=aN.size;go_wp2_with fail
 refine(Qr ⟨#[60,120,62]⟩ bY).mono ?_;rintro e bZ ⟨rfl,b3⟩;have bV:=b3.size;go_wp2_with fail
 refine(O8 2 4 bZ).mono ?_;rintro e c3 ⟨rfl,b2⟩;have bN:=b2.size;go_wp2_with fail
 refine(Qr ⟨#[60,120,62]⟩ c3).mono ?_;rintro e ab ⟨rfl,aS⟩;have bP:=aS.size;go_wp2_with fail
 obtain⟨c7,bR,aK,b6,bk⟩:=Bx ab [.int .u8 2,zE,.int .i64 2,zC,.int .u8 1,zE,zE,.string ⟨#[60,120,62]⟩,.int .u8 2,.int .i64 2,.int .i64 4,zC,.int .u8 1,zE,zE,.string ⟨#[60,120,62]⟩] 77;have bQ:=b6.size;obtain⟨cp,bL,am,ba,-⟩:=Bx c7 [.int .u8 3,zE,.int .i64 2,zC] 77;have bT:=ba.size;rw[bR,bL];rw[bk]at am;clear bR bL bk;refine(Qr ⟨#[48]⟩ cp).mono ?_;rintro e aD ⟨rfl,b8⟩;have bf:=b8.size;go_wp2_with fail
 obtain⟨c5,bC,ax,aY,-⟩:=Bx aD [.int .u8 1,zE,zE,.string ⟨#[48]⟩] 77;have bl:=aY.size;rw[bC];clear bC;refine(Qr ⟨#[48]⟩ c5).mono ?_;rintro e ca ⟨rfl,aZ⟩;have bF:=aZ.size;go_wp2_with fail
 refine(O8 0 3 ca).mono ?_;rintro e aH ⟨rfl,b7⟩;have bm:=b7.size;go_wp2_with fail
 obtain⟨c1,bD,ay,b9,-⟩:=Bx aH [.int .u8 1,zE,zE,.string ⟨#[48]⟩,.int .u8 2,zE,.int .i64 3,zC] 77;have bG:=b9.size;rw[bD];clear bD;refine(O8 0 2 c1).mono ?_;rintro e ai ⟨rfl,be⟩;have bH:=be.size;go_wp2_with fail
 obtain⟨D,bE,b4,aw,b0,-⟩:=Fk ai [.int .u8 2,zE,.int .i64 2,zC] [.string ⟨#[120,121,120,121]⟩,.slice (some ⟨ab,0,none⟩) 4 4,.int .u8 1,.int .i64 0,.string ⟨#[]⟩,.int .i64 4,.string ⟨#[97]⟩,.float .f64 4611686018427387904,.string ⟨#[97,98,99,100,101]⟩,.slice (some ⟨ab+1,0,none⟩) 1 1,.int .u8 1,.int .i64 0,.string ⟨#[99,100,101]⟩,.int .i64 2,.string ⟨#[97]⟩,.float .f64 0,.string ⟨#[97,98,46,46]⟩,.slice (some ⟨aD,0,none⟩) 1 1,.int .u8 1,.int .i64 0,.string ⟨#[97,98]⟩,.int .i64 0,.string ⟨#[98]⟩,.float .f64 0,.string ⟨#[97,98,46,46,113]⟩,.slice (some ⟨aH,0,none⟩) 2 2,.int .u8 2,.int .i64 0,.string ⟨#[]⟩,.int .i64 3,.string ⟨#[98]⟩,.float .f64 0,.string ⟨#[120,33]⟩,.slice none 0 0,.int .u8 2,.int .i64 3,.string ⟨#[120]⟩,.int .i64 0,.string ⟨#[97]⟩,.float .f64 0,.string ⟨#[122,122,33]⟩,.slice (some ⟨ai,0,none⟩) 1 1,.int .u8 3,.int .i64 0,.string ⟨#[]⟩,.int .i64 2,.string ⟨#[98]⟩,.float .f64 0] 77 80;rw[bE];clear bE;have cl:=b0.size;have t14:=b0;have t13:=be.trans (t14.mono bH);have t12:=b9.trans (t13.mono bG);have t11:=b7.trans (t12.mono bm);have t10:=aZ.trans (t11.mono bF);have t9:=aY.trans (t10.mono bl);have t8:=b8.trans (t9.mono bf);have t7:=ba.trans (t8.mono bT);have t6:=b6.trans (t7.mono bQ);have t5:=aS.trans (t6.mono bP);have t4:=b2.trans (t5.mono bN);have t3:=b3.trans (t4.mono bV);have t2:=aN.trans (t3.mono ak);have t1:=aM.trans (t2.mono aG);have cz:=aw.lt;have br:Al D6 4 D (fun b=>b<D) Aaz.A5 (.slice (some ⟨ab,0,none⟩) 4 4):=Gj Aaz.A5 [[.int .u8 2,zE,.int .i64 2,zC],[.int .u8 1,zE,zE,.string ⟨#[60,120,62]⟩],[.int .u8 2,.int .i64 2,.int .i64 4,zC],[.int .u8 1,zE,zE,.string ⟨#[60,120,62]⟩]] (Aa aK.range t7 aK.lt) (Zal aK.lt t7.size) rfl yF (fun i h1 h2=>by
  rcases(show i=0\/i=1\/i=2\/i=3 from vC)with rfl | rfl | rfl | rfl<;>rfl)
 have bs:Al D6 4 D (fun b=>b<D) Aay.A5 (.slice (some ⟨ab+1,0,none⟩) 1 1):=Gj Aay.A5 [[.int .u8 3,zE,.int .i64 2,zC]] (Aa am.range t8 am.lt) (Zal am.lt t8.size) rfl yF (fun i h1 h2=>by
  obtain rfl:i=0:=vC;rfl)
 have bt:Al D6 4 D (fun b=>b<D) Aax.A5 (.slice (some ⟨aD,0,none⟩) 1 1):=Gj Aax.A5 [[.int .u8 1,zE,zE,.string ⟨#[48]⟩]] (Aa ax.range t10 ax.lt) (Zal ax.lt t10.size) rfl yF (fun i h1 h2=>by
  obtain rfl:i=0:=vC;rfl)
 have bu:Al D6 4 D (fun b=>b<D) Aaw.A5 (.slice (some ⟨aH,0,none⟩) 2 2):=Gj Aaw.A5 [[.int .u8 1,zE,zE,.string ⟨#[48]⟩],[.int .u8 2,zE,.int .i64 3,zC]] (Aa ay.range t13 ay.lt) (Zal ay.lt t13.size) rfl yF (fun i h1 h2=>by
  rcases(show i=0\/i=1 from vC)with rfl | rfl<;>rfl)
 have bv:Al D6 4 D (fun b=>b<D) Aga.A5 (.slice none 0 0):=⟨none,0,rfl,Zab _,.inl rfl⟩;have bw:Al D6 4 D (fun b=>b<D) Aav.A5 (.slice (some ⟨ai,0,none⟩) 1 1):=Gj Aav.A5 [[.int .u8 2,zE,.int .i64 2,zC]] b4.range b4.lt rfl yF (fun i h1 h2=>by
  obtain rfl:i=0:=vC;rfl)
 have bi:Al Arz 8 D (fun b=>b<D) Tb (.slice (some ⟨ai+1,0,none⟩) 6 6):=Gj Tb [[.string ⟨#[120,121,120,121]⟩,.slice (some ⟨ab,0,none⟩) 4 4,.int .u8 1,zE,zC,.int .i64 4,.string ⟨#[97]⟩,.float .f64 4611686018427387904],[.string ⟨#[97,98,99,100,101]⟩,.slice (some ⟨ab+1,0,none⟩) 1 1,.int .u8 1,zE,.string ⟨#[99,100,101]⟩,.int .i64 2,.string ⟨#[97]⟩,zD],[.string ⟨#[97,98,46,46]⟩,.slice (some ⟨aD,0,none⟩) 1 1,.int .u8 1,zE,.string ⟨#[97,98]⟩,zE,.string ⟨#[98]⟩,zD],[.string ⟨#[97,98,46,46,113]⟩,.slice (some ⟨aH,0,none⟩) 2 2,.int .u8 2,zE,zC,.int .i64 3,.string ⟨#[98]⟩,zD],[.string ⟨#[120,33]⟩,zH,.int .u8 2,.int .i64 3,.string ⟨#[120]⟩,zE,.string ⟨#[97]⟩,zD],[.string ⟨#[122,122,33]⟩,.slice (some ⟨ai,0,none⟩) 1 1,.int .u8 3,zE,zC,.int .i64 2,.string ⟨#[98]⟩,zD]] aw.range aw.lt rfl yF (fun i h1 h2=>by
  rcases(show i=0\/i=1\/i=2\/i=3\/i=4\/i=5 from vC)with rfl | rfl | rfl | rfl | rfl | rfl
  ·exact⟨_,rfl,br⟩
  ·exact⟨_,rfl,bs⟩
  ·exact⟨_,rfl,bt⟩
  ·exact⟨_,rfl,bu⟩
  ·exact⟨_,rfl,bv⟩
  exact⟨_,rfl,bw⟩)
 have cn:=Zaa bi;have c0:=Zaa (Aku _ aq (A0.Ab.wide au.out fun b U=>U.2));have bA:=a3.below t2 a3.lt;have cb:=Zaa bA;have c9:=Zaa t1;have c2:=Zaa (aL.trans (t1.mono b5));have cA:=a3.lt;clear bi br bs bt bu bv bw t14 t13 t12 t11 t10 t9 t8 t7 t6 t5 t4 t3 t1 aK am ax ay b4 aw aM aN b3 b2 aS b6 ba b8 aY aZ b7 b9 be b0 ar a3 bA ak bV bN bP bQ bT bf bl bF bm bG bH cl aL;have cw:=t2.size;clear t2;go_loopw [45] (fun v wr=>∃j:Nat,j<=6/\v=.int .i64 j/\Below D D wr) (fun v _=>6 - (intOf v).toNat)
 case atStart=>exact⟨0,Zap _,rfl,Zai _ _⟩
 case round=>
  obtain⟨j,ct,rfl,aE⟩:=hrel;rcases Zga j 6 with bh | cE
  ·have cv:(j:Int) <6:=by omega
   obtain⟨cG,cF,cq,-,h0 | ⟨cH,cx,cc,cD,bO⟩⟩:=cn.out
   ·cases h0
   cases cq;cases cc;have bU:j<Tb:=bh;obtain⟨cB,aI,cu,rfl,az⟩:=bO j bU;obtain⟨av,aT,bn,bK,bS⟩:=c0.out _ (Zat bU);generalize Tb[j]=x at aI az av aT bn bK bS;obtain⟨ad,ac,rfl,-⟩:=id az;simp only[Pw.cells]at aI;have W:=Aa aI aE yE;have d0:=W 0 _ rfl;have d1:=W 1 _ rfl;have d2:=W 2 _ rfl;have d3:=W 3 _ rfl;have d4:=W 4 _ rfl;have d5:=W 5 _ rfl;have d6:=W 6 _ rfl;have d7:=W 7 _ rfl;simp only[Zaf,Zac]at d0 d1 d2 d3 d4 d5 d6 d7;obtain⟨aa,co,bb7,bo,-⟩:=Bx wr [x.1,.slice ad x.2.1.A5 ac,.int .u8 x.2.1.Ec,x.2.1.Es,.string (Dm x.2.1.Bd),x.2.1.low,x.2.2,.float .f64 x.2.1.x] 80;have c8:=aE.size;have cI:=bo.size;have be2:=aE.trans (bo.mono c8);have bB:=cb.out.below be2 yE;have bz:=(Al.Ab D6.Ab).mono ((Al.Ab D6.Ab).below az be2) be2.size;have aX:=c9.out.trans (be2.mono yE);have bg2:=Zaa bz;clear aI W bO az bz;go_upto_region 7 with fail
   clear co d0 d1 d2 d3 d4 d5 d6 d7;obtain⟨af,b1⟩:∃af,af=wr.heap.size:=⟨_,rfl⟩;rw[<-b1]at bb7;rw[<-b1];have ci:=bb7.lt;have cj:=bB.lt;obtain⟨bb,tp⟩:∃bb,bb=aa.heap.size:=⟨_,rfl⟩;have aj:Below bb aa (aa.drewN 1):=sB;rw[<-tp]at ci cj;have c6:=Zaa tp;clear tp b1;go_cut [6,7] (fun v6 v7 X=>R7 x D af ad ac v6 v7 X)
   case first=>
    have aj:Below aa aa (aa.drewN 1):=Bk (Zai _ _) 1 (Zab _);have aR:=bB.drewN 1;have aQ:=bb7.drewN 1;have tp:=c6.out;refine Mn [(3,[0]),(8,[0,1]),(4,[]),(9,[])] [(0,.inl (some 0)),(1,.inl none),(2,.inl (some 1))]
     (.two 3 ([],[0]) [] (.two 4 ([],[]) [(5,.inl none),(6,.inl none),(7,.inl none),(8,.inr ([],[0,1])),(9,.inr ([],[])),(10,.inl none)] .done 8 ([],[0,1]) [(4,.inr ([],[])),(5,.inl none),(6,.inl none),(7,.inl none),(9,.inr ([],[])),(10,.inl none)] .done)
      8 ([],[0,1]) [(3,.inr ([],[0])),(4,.inr ([],[])),(5,.inl none),(6,.inl none),(7,.inl none),(9,.inr ([],[])),(10,.inl none)] .done)
     (fun k X=>match k with | 0=>Ar X aq 30 [bd,.slice Y bc a0,.slice a6 es a5] | _=>Ar X af 80 [x.1,.slice ad x.2.1.A5 ac,.int .u8 x.2.1.Ec,x.2.1.Es,.string (Dm x.2.1.Bd),x.2.1.low,x.2.2,.float .f64 x.2.1.x]) [0,1] yG yG (lv2 aR aQ) ?_
    refine Z09 ?_;generalize aa.drewN 1=ah at aj aR aQ|-;have cy:=aj.size;clear aR aQ;refine Ba (.agg #[bd,.slice Y bc a0,.slice a6 es a5]) yI (fun w' A=>?_) (fun K J=>?_)
    ·have h9:Ar w' aq 30 [bd,.slice Y bc a0,.slice a6 es a5]:=A
     have g0:=h9.cell (j:=0) rfl;have g1:=h9.cell (j:=1) rfl;have g2:=h9.cell (j:=2) rfl;go_simp
    (go_simp;refine J _ ?_;clear J K)
    refine Z2o ?_;refine Ba (.string x.1) yI (fun w' A=>?_) (fun K J=>?_)
    ·have h9:Ar w' af 80 [x.1,.slice ad x.2.1.A5 ac,.int .u8 x.2.1.Ec,x.2.1.Es,.string (Dm x.2.1.Bd),x.2.1.low,x.2.2,.float .f64 x.2.1.x]:=A
     have g0:=h9.cell (j:=0) rfl;go_simp
    (go_simp;refine J _ ?_;clear J K)
    refine B1 ?_;simp only[Pj,Bi,Zak,Zan,Zah,Zad,Zae,Zaj];refine⟨?_,?_⟩
    ·refine A1 rfl (fun K J=>?_)
     go_wp2_with fail
     refine(Wf x.1 aT ah).mono ?_;rintro e V ⟨aC,aB,rfl,hle,T,a1⟩;go_wp2_with fail
     refine J _ _ yF (Bg (fun h=>Ar.below h a1 yE)) ?_;have ae:=Zaa T;have aF:=Zaa hle;clear T hle;clear J K;have b5:=a1.size;have an:=aj.trans (a1.mono yE);clear a1;refine B1 ?_;try simp only[Pj,Bi,Zak,Zan,Zah,Zad,Zae,Zaj]
     refine⟨?_,?_⟩
     ·refine A1 rfl (fun K J=>?_)
      have a8:=Zaa (av V aC aB (aX.trans (an.mono yE)) ae.out aF.out);go_wp2_with fail
      refine a8.out.mono ?_;rintro e M ⟨bJ,bj,rfl,h2,h3,a1⟩;obtain⟨H,G,rfl,-⟩:=id h2;rcases h3.at_ with h9 | ⟨g,gc,rfl,-,a4,a2⟩
      ·cases h9
      have O:=a2 0 yF;simp only[Zgl,Zaf,Zek]at O;have qb:=Zaa (show Uv x M H G g gc from⟨h2,a4,O⟩);clear h2 h3 a2 O a8;go_wp2_with fail
      refine Z3y ?_;clear J K;have aG:=a1.size;have a9:=an.trans (a1.mono yE);refine Z2u ?_;clear a1;refine A1 rfl (fun K J=>?_);go_wp2_with fail
      have a1:=Bq M (.cells yA 62);have qs:=Ar.new M 62 zW;obtain⟨al,aW⟩:=zL (M.alloc (.cells yA 62));rw[aW]at a1|-;replace qs:Ar al M 62 zW:=by rw[<-aW];exact qs
      clear aW;refine Z4S ?_;have bM:=qb.out.C4 a1;clear qb;have qb:=Zaa bM;clear bM;clear J K;have ak:=a1.size;have py:=a9.trans (a1.mono yE);clear a1;refine Z48 ?_;intro ck bic;clear qs;refine A1 rfl (fun K J=>?_);go_wp2_with (refine Zil rfl 62 _ _ rfl (M.heap.size) 0 #[.slice H x.2.1.A5 G,.int .u8 x.2.1.Ec,x.2.1.Es,x.2.2,.string (Dm x.2.1.Bd),x.2.1.low,x.2.1.Az,.slice (some ⟨g,0,none⟩) 1 gc] rfl rfl ck.out yG yL ?_)
      refine Z3y ?_;clear J K;refine Z0h ?_;refine B1 ?_;go_wp2_with fail
      go_meet
      case rel=>exact bic.out
     refine A1 rfl (fun K J=>?_);go_wp2_with fail
     have a1:=Bq V (.cells yA 62);have qs:=Ar.new V 62 zW;obtain⟨M,aV⟩:=zL (V.alloc (.cells yA 62));rw[aV]at a1|-;replace qs:Ar M V 62 zW:=by rw[<-aV];exact qs
     clear aV;refine Z4S ?_;have T:=ae.out.below a1 (Zab _);replace T:=T.mono a1.size;clear ae;have ae:=Zaa T;clear T;clear J K;have aG:=a1.size;have a9:=an.trans (a1.mono yE);clear a1;refine A1 rfl (fun K J=>?_);have a8:=Zaa (av M aC aB (aX.trans (a9.mono yE)) ae.out aF.out);go_wp2_with fail
     refine a8.out.mono ?_;rintro e al ⟨bJ,bj,rfl,h2,h3,a1⟩;obtain⟨H,G,rfl,-⟩:=id h2;rcases h3.at_ with h9 | ⟨g,gc,rfl,-,a4,a2⟩
     ·cases h9
     have O:=a2 0 yF;simp only[Zgl,Zaf,Zek]at O;have qb:=Zaa (show Uv x al H G g gc from⟨h2,a4,O⟩);clear h2 h3 a2 O a8;go_wp2_with fail
     refine Z3y ?_;have qs:=qs.below a1 qs.lt;clear J K;have ak:=a1.size;have py:=a9.trans (a1.mono yE);refine Z2u ?_;clear a1;refine Z48 ?_;intro ck bic;clear qs;refine A1 rfl (fun K J=>?_);go_wp2_with (refine Zil rfl 62 _ _ rfl (V.heap.size) 0 #[.slice H x.2.1.A5 G,.int .u8 x.2.1.Ec,x.2.1.Es,x.2.2,.string (Dm x.2.1.Bd),x.2.1.low,x.2.1.Az,.slice (some ⟨g,0,none⟩) 1 gc] rfl rfl ck.out yG yL ?_)
     refine Z3y ?_;clear J K;refine Z0h ?_;refine B1 ?_;go_wp2_with fail
     go_meet
     case rel=>exact bic.out
    refine A1 rfl (fun K J=>?_);go_wp2_with fail
    have a1:=Bq ah (.cells yA 62);have qs:=Ar.new ah 62 zW;obtain⟨V,aU⟩:=zL (ah.alloc (.cells yA 62));rw[aU]at a1|-;replace qs:Ar V ah 62 zW:=by rw[<-aU];exact qs
    clear aU;refine Z4S ?_;clear J K;have b5:=a1.size;have an:=aj.trans (a1.mono yE);clear a1;refine A1 rfl (fun K J=>?_);go_wp2_with fail
    refine(Wf x.1 aT V).mono ?_;rintro e M ⟨aC,aB,rfl,hle,T,a1⟩;go_wp2_with fail
    refine J _ _ yF (Bg (fun h=>Ar.below h a1 yE)) ?_;have ae:=Zaa T;have aF:=Zaa hle;clear T hle;have qs:=qs.below a1 qs.lt;clear J K;have aG:=a1.size;have a9:=an.trans (a1.mono yE);clear a1;refine A1 rfl (fun K J=>?_);have a8:=Zaa (av M aC aB (aX.trans (a9.mono yE)) ae.out aF.out);go_wp2_with fail
    refine a8.out.mono ?_;rintro e al ⟨bJ,bj,rfl,h2,h3,a1⟩;obtain⟨H,G,rfl,-⟩:=id h2;rcases h3.at_ with h9 | ⟨g,gc,rfl,-,a4,a2⟩
    ·cases h9
    have O:=a2 0 yF;simp only[Zgl,Zaf,Zek]at O;have qb:=Zaa (show Uv x al H G g gc from⟨h2,a4,O⟩);clear h2 h3 a2 O a8;go_wp2_with fail
    refine Z4v ?_;have qs:=qs.below a1 qs.lt;clear J K;have ak:=a1.size;have py:=a9.trans (a1.mono yE);refine Z3x ?_;clear a1;refine Z48 ?_;intro ck bic;clear qs;refine A1 rfl (fun K J=>?_);go_wp2_with (refine Zil rfl 62 _ _ rfl (ah.heap.size) 0 #[.slice H x.2.1.A5 G,.int .u8 x.2.1.Ec,x.2.1.Es,x.2.2,.string (Dm x.2.1.Bd),x.2.1.low,x.2.1.Az,.slice (some ⟨g,0,none⟩) 1 gc] rfl rfl ck.out yG yL ?_)
    refine Z4v ?_;clear J K;refine Z2o ?_;refine B1 ?_;go_wp2_with fail
    go_meet
    case rel=>exact bic.out
   case rest=>
    obtain⟨H,G,g,gc,b,rfl,rfl,hF,cg,ce,bp,cf,ch,bx⟩:=hcut;obtain⟨a7,cd⟩:∃a7,a7=wc:=⟨_,rfl⟩;subst cd;simp only[Apj]at hF;have ag:Below a7 a7 (a7.drewN 1):=Bk (Zai _ _) 1 (Zab _);have ao:=hF.drewN 1;have ap:=cg.drewN 1;have aJ:=Aa ce ag bp;have aP:=bx.trans (ag.mono bx.size);have bq:=Zaa (Zq x.2.1.A5 H ad G ac (a7.drewN 1) a7 ag.size bn ((Al.Ab D6.Ab).below cf ag) ((Al.Ab D6.Ab).below ch ag));have cr:(FloatKind.f64.format.order x.2.1.x x.2.1.x==some .eq)=true:=by rw[eq_self _ bK,bS];rfl
    have a4:=Zal bp ag.size;go_upto_region 8 with fail
    refine J7 [(0,.inl none),(1,.inl none),(2,.inl none),(3,.inl none),(4,.inl none),(5,.inl (some 0)),(6,.inl none),(7,.inl (some 0)),(8,.inr [0]),(9,.inl none),(10,.inl none),(11,.inl none),(12,.inl none),(13,.inl none),(14,.inl (some 0)),(15,.inl none),(16,.inl (some 0)),(17,.inl none),(18,.inl none),(19,.inl none),(20,.inl none),(21,.inl (some 0)),(22,.inl none),(23,.inl (some 0)),(24,.inl none),(25,.inl none),(26,.inl none),(27,.inl none),(28,.inl (some 0)),(29,.inl none),(30,.inl (some 0)),(31,.inl none),(32,.inl none),(33,.inl none),(34,.inl none),(35,.inl (some 0)),(36,.inl none),(37,.inl (some 0)),(38,.inl none),(39,.inl none),(40,.inl none),(41,.inl none),(42,.inl (some 0)),(43,.inl none),(44,.inl none),(45,.inl none),(46,.inl none),(47,.inl none),(48,.inl (some 0)),(49,.inl none),(50,.inl none),(51,.inl none),(52,.inl (some 0)),(53,.inl none),(54,.inl (some 0)),(55,.inl none),(56,.inl none)]
     (fun _ X=>Ar X b 62 [.slice H x.2.1.A5 G,.int .u8 x.2.1.Ec,x.2.1.Es,x.2.2,.string (Dm x.2.1.Bd),x.2.1.low,x.2.1.Az,.slice (some ⟨g,0,none⟩) 1 gc]/\Ar X af 80 [x.1,.slice ad x.2.1.A5 ac,.int .u8 x.2.1.Ec,x.2.1.Es,.string (Dm x.2.1.Bd),x.2.1.low,x.2.2,.float .f64 x.2.1.x]/\X.rangeAt g 0 (Fs x.2.1.x)) [0] yG yG (fun _ _=>⟨ao,ap,aJ⟩) ?_
    refine Z09 ?_;generalize a7.drewN 1=wf at ao ap aJ aP bq a4|-;refine Z4i ?_;refine Av (.slice H x.2.1.A5 G) yI (fun w' A=>?_) (fun K J=>?_)
    ·have F:=A.1.cell (j:=0) rfl;go_simp
    (go_simp;refine J _ ?_;clear J K)
    refine Z2U ?_;refine Av (.slice ad x.2.1.A5 ac) yI (fun w' A=>?_) (fun K J=>?_)
    ·have F:=A.2.1.cell (j:=1) rfl;go_simp
    (go_simp;refine J _ ?_;clear J K)
    refine Ci (fun K J=>?_) (fun k bg=>by
     simp only[Zbf]at bg;exact⟨ao,ap,aJ⟩)
    go_wp2_with fail
    refine bq.out.mono ?_;rintro e cC ⟨rfl,aA⟩;go_wp2_with fail
    refine J _ _ (fun k bg=>⟨ao.below aA ao.lt,ap.below aA ap.lt,Aa aJ aA a4⟩) ?_;clear J K;refine Z4i ?_;refine Av (.agg #[.int .u8 x.2.1.Ec,x.2.1.Es]) yI (fun w' A=>?_) (fun K J=>?_)
    ·have F:=A.1.cell (j:=1) rfl;have c4:=A.1.cell (j:=2) rfl;go_simp
    (go_simp;refine J _ ?_;clear J K)
    refine Z2U ?_;refine Av (.agg #[.int .u8 x.2.1.Ec,x.2.1.Es]) yI (fun w' A=>?_) (fun K J=>?_)
    ·have F:=A.2.1.cell (j:=2) rfl;have c4:=A.2.1.cell (j:=3) rfl;go_simp
    (go_simp;refine J _ ?_;clear J K)
    refine Z3J ?_;refine Av (.string (Dm x.2.1.Bd)) yI (fun w' A=>?_) (fun K J=>?_)
    ·have F:=A.1.cell (j:=4) rfl;go_simp
    (go_simp;refine J _ ?_;clear J K)
    refine Z2U ?_;refine Av (.string (Dm x.2.1.Bd)) yI (fun w' A=>?_) (fun K J=>?_)
    ·have F:=A.2.1.cell (j:=4) rfl;go_simp
    (go_simp;refine J _ ?_;clear J K)
    refine Z3J ?_;refine Av (.int .i64 x.2.1.low) yI (fun w' A=>?_) (fun K J=>?_)
    ·have F:=A.1.cell (j:=5) rfl;go_simp
    (go_simp;refine J _ ?_;clear J K)
    refine Z2U ?_;refine Av (.int .i64 x.2.1.low) yI (fun w' A=>?_) (fun K J=>?_)
    ·have F:=A.2.1.cell (j:=5) rfl;go_simp
    (go_simp;refine J _ ?_;clear J K)
    refine Z3J ?_;refine Av (.string x.2.2) yI (fun w' A=>?_) (fun K J=>?_)
    ·have F:=A.1.cell (j:=3) rfl;go_simp
    (go_simp;refine J _ ?_;clear J K)
    refine Z2U ?_;refine Av (.string x.2.2) yI (fun w' A=>?_) (fun K J=>?_)
    ·have F:=A.2.1.cell (j:=6) rfl;go_simp
    (go_simp;refine J _ ?_;clear J K)
    refine Z3J ?_;refine Av (.slice (some ⟨g,0,none⟩) 1 gc) yI (fun w' A=>?_) (fun K J=>?_)
    ·have F:=A.1.cell (j:=7) rfl;go_simp
    (go_simp;refine J _ ?_;clear J K)
    refine Z4i ?_;refine Av (.slice (some ⟨g,0,none⟩) 1 gc) yI (fun w' A=>?_) (fun K J=>?_)
    ·have F:=A.1.cell (j:=7) rfl;go_simp
    (go_simp;refine J _ ?_;clear J K)
    iterate 3 (refine Ad (fun K J=>?_);go_simp;refine J _ ?_;clear J K)
    refine Av (.float .f64 x.2.1.x) yI (fun w' A=>?_) (fun K J=>?_)
    ·have F:=A.2.2 3 _ rfl;simp only[Zac]at F;go_simp
    (go_simp;refine J _ ?_;clear J K)
    refine Z2U ?_;refine Av (.float .f64 x.2.1.x) yI (fun w' A=>?_) (fun K J=>?_)
    ·have F:=A.2.1.cell (j:=7) rfl;go_simp
    (go_simp;refine J _ ?_;clear J K)
    iterate 2 (refine Ad (fun K J=>?_);go_simp;refine J _ ?_;clear J K)
    refine C7 ?_;have bW:(FloatKind.f64.format.order x.2.1.x x.2.1.x != some .eq)=false:=by simp only[bne,cr,Zck]
    go_wp2_with fail
    ·rename_i a1
     rw[bW]at a1;cases a1
    exact⟨⟨j+1,bh,yK,aP.trans (aA.mono aP.size)⟩,xJ⟩
  obtain rfl:j=6:=by omega
  go_wp2_with fail
  go_ret;exact⟨rfl,c2.out.trans (aE.mono yE)⟩
end Go.Proofs.YtafmoofknjncpaaGreatDoor
