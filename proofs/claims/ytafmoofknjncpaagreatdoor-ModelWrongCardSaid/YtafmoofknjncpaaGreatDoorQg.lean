/- A part of the proof that ModelWrong holds: its theorems stand as they are typed. -/
import Derived.Test.YtafmoofknjncpaaGreatDoorR
import Derived.Test.YtafmoofknjncpaaGreatDoorQs
import Derived.Test.YtafmoofknjncpaaGreatDoorQf
set_option linter.all false
set_option maxRecDepth 100000
set_option maxHeartbeats 8000000
namespace Go.Proofs.YtafmoofknjncpaaGreatDoor
section
open Tryz Go.RowKit Go.Shelf
theorem Gj {α:Type} {I:World->(Nat->Prop)->α->List Value->Prop} {K:Nat} {w:zN} {S:zT} {b:Nat} (l:List α) (A:List (List Value)) (F:w.rangeAt b 0 A.flatten) (H:S b) (O:A.length=l) (J:∀cs∈A,cs.length=K) (hI:∀i (h1:i<l.length) (h2:i<A.length),I w S l[i] A[i]):
  Al I K w S l (.slice (some ⟨b,0,none⟩) l l):=by
 refine⟨_,_,rfl,Zab _,.inr ⟨b,0,rfl,H,fun i G=>⟨A[i]'yE,fun j v D=>?_,hI i G yE⟩⟩⟩
 have h2:i<A.length:=yE
 have M:j<K:=by rw[<-J _ (Zat h2)];exact(Zeg.1 D).1
 rw[Zac,<-Zac (i*K+j),Nat.add_comm 0,Zaf]
 have:=F (i*K+j) v (by rw[flat_get A J i j h2 M];exact D)
 rwa[Zac]at this
theorem M6 {α:Type} {I:World->(Nat->Prop)->α->List Value->Prop} {K:Nat} {w:zN} {S:zT} {b:Nat} (x:α) (cs:zP) (a6:w.rangeAt b 0 cs) (A:S b) (J:cs=K) (hI:I w S x cs):Al I K w S [x] (.slice (some ⟨b,0,none⟩) 1 1):=
 Gj [x] [cs] vN A rfl (by simpa using J) (fun i h1 h2=>by
  obtain rfl:i=0:=vD;exact hI)
theorem I2 {L:Type} {E:L->List Value} {K:Nat} {w:zN} {S:zT} (l:L) (s:List (Tree L)) {a:zO} {n c:Nat} (h:Al (fun w S t cs=>Tree.A6 E K w S t cs) K w S s (.slice a n c)):Tree.A6 E K w S (.node l s) (E l++[.slice a n c]):=by
 obtain⟨D,F,e,A,h⟩:=h;cases e;exact Tree.A6.shut A h
theorem Gs {α:Type} {I:World->(Nat->Prop)->α->List Value->Prop} {K:Nat} {w:zN} {S:zT}:Al I K w S [] (.slice none 0 0):=⟨none,0,rfl,Zab _,.inl rfl⟩
theorem O9 {α:Type} {I:World->(Nat->Prop)->α->List Value->Prop} {K:Nat} {w:zN} {S:zT} {b:Nat} (x y:α) (cs A:zP) (a6:w.rangeAt b 0 (cs++A)) (D:S b) (J:cs=K) (G:A=K) (hI:I w S x cs) (F:I w S y A):Al I K w S [x,y] (.slice (some ⟨b,0,none⟩) 2 2):=
 Gj [x,y] [cs,A] vN D rfl (by simp[J,G]) (fun i h1 h2=>by
  rcases(show i=0\/i=1 by simp at h1;omega)with rfl | rfl
  ·exact hI
  ·exact F)
def V3 (n A:Nat) (i:Nat) (v:Value) (X:zN):Prop:=
 match i with
 | 0=>v=.agg #[.int .u8 6,zI,zI,zI,zI,zE,zE,.slice (some ⟨A,0,none⟩) 1 1]
 | 1=>v=.agg #[.int .u8 2,zI,.int .u64 144115188075855872,zI,zI,zE,zE,zH]
 | 2=>∃b,n<=b/\v=.slice (some ⟨b,0,none⟩) 2 2/\X.rangeAt b 0 [.int .u8 6,zI,zI,zI,zI,zE,zE,.slice (some ⟨A,0,none⟩) 1 1,.int .u8 2,zI,.int .u64 144115188075855872,zI,zI,zE,zE,zH]
 | 3=>∃b,n<=b/\v=.agg #[.int .u8 3,zI,zI,zI,zI,zE,zE,.slice (some ⟨b,0,none⟩) 2 2]/\X.rangeAt b 0 [.int .u8 6,zI,zI,zI,zI,zE,zE,.slice (some ⟨A,0,none⟩) 1 1,.int .u8 2,zI,.int .u64 144115188075855872,zI,zI,zE,zE,zH]
 | 4=>∃b,n<=b/\v=.agg #[zA,zA,.int .u8 3,zI,zI,zI,zI,zE,zE,.slice (some ⟨b,0,none⟩) 2 2]/\X.rangeAt b 0 [.int .u8 6,zI,zI,zI,zI,zE,zE,.slice (some ⟨A,0,none⟩) 1 1,.int .u8 2,zI,.int .u64 144115188075855872,zI,zI,zE,zE,zH]
 | 5=>∃b,n<=b/\v=.agg #[.int .u8 1,zA,zA,.int .u8 3,zI,zI,zI,zI,zE,zE,.slice (some ⟨b,0,none⟩) 2 2,zC,zE,zH,.string ⟨#[97]⟩,zE]/\X.rangeAt b 0 [.int .u8 6,zI,zI,zI,zI,zE,zE,.slice (some ⟨A,0,none⟩) 1 1,.int .u8 2,zI,.int .u64 144115188075855872,zI,zI,zE,zE,zH]
 | _=>∃b,n<=b/\v=.pointer (some ⟨b,0,none⟩)/\Ar X b 48 yB
theorem V3.C4 {n F i:Nat} {v:Value} {X Y:zN} (h:Below X X Y) (D:V3 n F i v X):V3 n F i v Y:=by
 have A:∀ {b:Nat} {c:Value} {cs:zP},X.rangeAt b 0 (c::cs)->Y.rangeAt b 0 (c::cs):=fun A=>Aa A h (Bm A yF)
 match i with
 | 0=>exact D
 | 1=>exact D
 | 2=>obtain⟨b,h1,h2,h3⟩:=D;exact⟨b,h1,h2,A h3⟩
 | 3=>obtain⟨b,h1,h2,h3⟩:=D;exact⟨b,h1,h2,A h3⟩
 | 4=>obtain⟨b,h1,h2,h3⟩:=D;exact⟨b,h1,h2,A h3⟩
 | 5=>obtain⟨b,h1,h2,h3⟩:=D;exact⟨b,h1,h2,A h3⟩
 | _+6=>obtain⟨b,h1,h2,h3⟩:=D;exact⟨b,h1,h2,h3.below h h3.lt⟩
def SX (m:Nat) (X:zN) (b:Nat):Prop:=m<=b/\b<X
theorem Eb {α:Type} {I:World->(Nat->Prop)->α->List Value->Prop} {K m:Nat} {X Y:zN} {l:List α} {v:Value} (hI:Cp I) (h:Below X X Y) (A:Al I K X (SX m X) l v):Al I K Y (SX m Y) l v:=
 (Al.Ab hI).wide ((Al.Ab hI).block A fun b U=>h.block b U.2) fun b U=>⟨U.1,Zal U.2 h.size⟩
def V5 (m A a2:Nat) (i:Nat) (v:Value) (X:zN):Prop:=
 match i with
 | 0=>v=.agg #[zB,zC,zD]
 | 1=>v=.agg #[.string ⟨#[110]⟩,zB,zC,zD]
 | 2=>∃b,v=.slice (some ⟨b,0,none⟩) 1 1/\Al Dy 4 X (SX m X) A9.An (.slice (some ⟨b,0,none⟩) 1 1)
 | 3=>v=.agg #[.int .u8 1,zA,zA,.int .u8 3,zI,zI,zI,zI,zE,zE,.slice (some ⟨A,0,none⟩) 2 2,zC,zE,.slice (some ⟨a2,0,none⟩) 2 2,.string ⟨#[97]⟩,zE]
 | 4=>v=.agg #[.int .u8 2,zA,zA,zJ,zI,zI,zI,zI,zE,zE,zH,.string ⟨#[122,122]⟩,zE,zH,.string ⟨#[98]⟩,zE]
 | 5=>v=.func (.func 44) #[] #[]
 | 6=>v=.agg #[.int .u8 9,zD,.string ⟨#[110]⟩,zE,zH]
 | 7=>v=.agg #[.int .u8 4,zC,zE,.int .u8 9,zD,.string ⟨#[110]⟩,zE,zH]
 | 8=>∃b,v=.slice (some ⟨b,0,none⟩) 1 1/\Al Bz 8 X (SX m X) [Ahj] (.slice (some ⟨b,0,none⟩) 1 1)
 | 9=>∃b,v=.agg #[.int .u8 1,zC,.slice (some ⟨b,0,none⟩) 1 1,zJ,zD,zC,zE,zH]/\Al Bz 8 X (SX m X) [Ahj] (.slice (some ⟨b,0,none⟩) 1 1)
 | 10=>∃b,v=.slice (some ⟨b,0,none⟩) 1 1/\Al C2 8 X (SX m X) [Nt] (.slice (some ⟨b,0,none⟩) 1 1)
 | 11=>∃b,v=.agg #[.int .u8 4,zA,zA,zJ,zI,zI,zI,zI,zE,zE,zH,zC,.int .i64 2,.slice (some ⟨b,0,none⟩) 1 1,.string ⟨#[98]⟩,zE]/\Al C2 8 X (SX m X) [Nt] (.slice (some ⟨b,0,none⟩) 1 1)
 | 12=>v=.agg #[.int .u8 3,zA,zA,zJ,zI,zI,zI,zI,zE,zE,zH,zC,zE,zH,zC,.int .i64 3]
 | 13=>∃b,v=.slice (some ⟨b,0,none⟩) 4 4/\Al Bj 16 X (SX m X) Db.Ai (.slice (some ⟨b,0,none⟩) 4 4)
 | 14=>∃b,v=.agg #[.string ⟨#[97]⟩,.slice (some ⟨b,0,none⟩) 4 4]/\Al Bj 16 X (SX m X) Db.Ai (.slice (some ⟨b,0,none⟩) 4 4)
 | 15=>v=.agg #[.int .u8 2,zI,.int .u64 562949953421312,zI,zI,zE,zE,zH]
 | 16=>v=.agg #[zA,zB,.int .u8 2,zI,.int .u64 562949953421312,zI,zI,zE,zE,zH]
 | 17=>v=.agg #[.int .u8 1,zA,zB,.int .u8 2,zI,.int .u64 562949953421312,zI,zI,zE,zE,zH,zC,zE,zH,zC,zE]
 | 18=>∃b,v=.slice (some ⟨b,0,none⟩) 1 1/\Al Bj 16 X (SX m X) [S9] (.slice (some ⟨b,0,none⟩) 1 1)
 | 19=>∃b,v=.agg #[.string ⟨#[98]⟩,.slice (some ⟨b,0,none⟩) 1 1]/\Al Bj 16 X (SX m X) [S9] (.slice (some ⟨b,0,none⟩) 1 1)
 | 20=>∃b,v=.slice (some ⟨b,0,none⟩) 2 2/\Al Cf 2 X (SX m X) Mb (.slice (some ⟨b,0,none⟩) 2 2)
 | _=>∃b c,v=.agg #[.int .i64 4,.slice (some ⟨b,0,none⟩) 1 1,.slice (some ⟨c,0,none⟩) 2 2]/\Al Dy 4 X (SX m X) A9.An (.slice (some ⟨b,0,none⟩) 1 1)/\Al Cf 2 X (SX m X) Mb (.slice (some ⟨c,0,none⟩) 2 2)
theorem V5.C4 {m D a2 i:Nat} {v:Value} {X Y:zN} (h:Below X X Y) (A:V5 m D a2 i v X):V5 m D a2 i v Y:=by
 match i with
 | 0 | 1 | 3 | 4 | 5 | 6 | 7 | 12 | 15 | 16 | 17=>exact A
 | 2=>obtain⟨b,h1,h2⟩:=A;exact⟨b,h1,Eb Dy.Ab h h2⟩
 | 8=>obtain⟨b,h1,h2⟩:=A;exact⟨b,h1,Eb Bz.Ab h h2⟩
 | 9=>obtain⟨b,h1,h2⟩:=A;exact⟨b,h1,Eb Bz.Ab h h2⟩
 | 10=>obtain⟨b,h1,h2⟩:=A;exact⟨b,h1,Eb C2.Ab h h2⟩
 | 11=>obtain⟨b,h1,h2⟩:=A;exact⟨b,h1,Eb C2.Ab h h2⟩
 | 13=>obtain⟨b,h1,h2⟩:=A;exact⟨b,h1,Eb Bj.Ab h h2⟩
 | 14=>obtain⟨b,h1,h2⟩:=A;exact⟨b,h1,Eb Bj.Ab h h2⟩
 | 18=>obtain⟨b,h1,h2⟩:=A;exact⟨b,h1,Eb Bj.Ab h h2⟩
 | 19=>obtain⟨b,h1,h2⟩:=A;exact⟨b,h1,Eb Bj.Ab h h2⟩
 | 20=>obtain⟨b,h1,h2⟩:=A;exact⟨b,h1,Eb Cf.Ab h h2⟩
 | _+21=>obtain⟨b,c,h1,h2,h3⟩:=A;exact⟨b,c,h1,Eb Dy.Ab h h2,Eb Cf.Ab h h3⟩
attribute [local irreducible] C8
theorem Aej (w:zN):Calls prog 14 #[] w fun e w'=>∃cs,e=.returned (.agg cs.toArray)/\cs.length=3/\A0 w' (fun b=>w.heap.size<=b/\b<w'.heap.size) A9 cs/\Below w w w':=by
 obtain⟨aJ,cb,bg,au,aF⟩:=Bx w [zE,zH,zH] 30;have bq:=Zaa bg;have bx:=Zaa aF;clear bg aF;go_enter func14,ntmps14
 go_wp2_with fail
 refine(Alw aJ).mono ?_;rintro e M ⟨rfl,ai⟩;have cy:=ai.size;go_upto_region 3 with fail
 obtain⟨a9,be,bh,bb,aw,bV⟩:=Fk M [.int .u8 2,zI,.int .u64 72057594037927936,zI,zI,zE,zE,zH] [.int .u8 6,zI,zI,zI,zI,zE,zE,.slice (some ⟨M,0,none⟩) 1 1] 43 43;rw[show M.heap.size+1=M+1 from rfl];rw[be];have bM:M.heap.size+2<=a9:=yE;obtain⟨a7,ak⟩:∃a7,a7=a9.heap.size:=⟨_,rfl⟩;have bA:Below a7 a9 (a9.drewN 1):=by rw[ak];exact Bk (Zai _ _) 1 (Zab _)
 have cu:M.heap.size+2<=a7:=yE;have aV:=Zaa ak;clear be bV ak bM;refine Tp 7 [(7,.inr ([],[]))] (fun X Y=>Below X X Y) (fun X=>Below a7 a9 X) (V3 a7 M) yG yG (fun i v X Y h av=>V3.C4 h av) bA ?_ ?_
 ·intro i o bo aB vs X hI D
  have ab:a7<=X.heap.size:=by have:=hI.size;have:=aV.out;omega
  rcases(show i=0\/i=1\/i=2\/i=3\/i=4\/i=5\/i=6 from yE)with rfl | rfl | rfl | rfl | rfl | rfl | rfl<;>cases aB
  ·have g:=bb.below hI yE
   refine Z3e ?_;intro g0 g1 g2 g3 g4 g5 g6 g7;refine Z0W ?_;exact⟨hI,Zai _ _,rfl⟩
  ·simp only[Ew,Im,Zia,Zah,Zao,Zav,Nat.reduceAdd,Zae,Zad,Zbs,Act.put]
   go_simp;exact(Alv X).mono fun e Y ⟨h1,h2⟩=>⟨_,h1,hI.trans (h2.mono ab),h2,rfl⟩
  ·skip
   have h0:=D 0 yG;have h1:=D 1 yG;simp only[V3]at h0 h1;refine Z0W ?_;have U:=Bq X (.cells #[.int .u8 6,zI,zI,zI,zI,zE,zE,.slice (some ⟨M,0,none⟩) 1 1,.int .u8 2,zI,.int .u64 144115188075855872,zI,zI,zE,zE,zH] 43);exact⟨hI.trans (U.mono ab),U,X.heap.size,ab,rfl,Ae X [.int .u8 6,zI,zI,zI,zI,zE,zE,.slice (some ⟨M,0,none⟩) 1 1,.int .u8 2,zI,.int .u64 144115188075855872,zI,zI,zE,zE,zH] 43⟩
  ·obtain⟨b,h1,h2,h3⟩:=D 2 yG
   exact Z3k
  ·obtain⟨b,h1,h2,h3⟩:=D 3 yG
   exact Z3k
  ·obtain⟨b,h1,h2,h3⟩:=D 4 yG
   exact Z3k
  refine Z0W ?_;have U:=Bq X (.cells zU 48);exact⟨hI.trans (U.mono ab),U,X.heap.size,ab,rfl,Ar.new X 48 yB⟩
 intro vs aL af D;have bf:=D 0 yE;have aU:=D 1 yE;obtain⟨ce,cf,ay,aG⟩:=D 2 yE;obtain⟨cq,cp,bW,c1⟩:=D 3 yE;obtain⟨cv,cr,ca,c2⟩:=D 4 yE;obtain⟨G,cw,c5,am⟩:=D 5 yE;obtain⟨a0,cx,bs,an⟩:=D 6 yE;simp only[V3]at bf aU;simp only[Ew,Im,Zah,Zao,Zav,Nat.reduceAdd,Zae,Zad,Zbs,Act.put,Nat.reduceLT,decide_true,decide_false,Zia,Zbd,Zhz,bf,aU,ay,bW,ca,c5,bs,Bi,Zak,Zan,Zaj,Zbm,Zfi,Zfj];have aE:G≠a0:=by
  rintro rfl;have bi:=am 0 _ rfl;have c6:=an.cell (j:=0) rfl;rw[Zaf,c6]at bi;cases bi
 have aP:=Bm am yF;have ag:=Zaa an.there;have ar:=an.fill (vs:=[.int .u8 1,zA,zA,.int .u8 3,zI,zI,zI,zI,zE,zE,.slice (some ⟨G,0,none⟩) 2 2,zC,zE,zH,.string ⟨#[97]⟩,zE]) rfl;have O:=Ao aL a0 [.int .u8 1,zA,zA,.int .u8 3,zI,zI,zI,zI,zE,zE,.slice (some ⟨G,0,none⟩) 2 2,zC,zE,zH,.string ⟨#[97]⟩,zE] 0;have aH:=Ag am (O.block G aP (B4 aE));refine A1 rfl (fun K J=>?_);go_wp2_with (refine Zil rfl 48 _ _ rfl a0 0 #[.int .u8 1,zA,zA,.int .u8 3,zI,zI,zI,zI,zE,zE,.slice (some ⟨G,0,none⟩) 2 2,zC,zE,zH,.string ⟨#[97]⟩,zE] rfl rfl ag.out yG yL ?_)
 refine Z3y ?_;clear J K D aG c1 c2 ag;generalize aL.setCells a0 0 [.int .u8 1,.bool false,.bool false,.int .u8 3,.int .u64 0,.int .u64 0,.int .u64 0,.int .u64 0,.int .i64 0,.int .i64 0,.slice (some ⟨G,0,none⟩) 2 2,.string ⟨#[]⟩,.int .i64 0,.slice none 0 0,.string ⟨#[97]⟩,.int .i64 0]=a5 at ar O aH|-;refine B1 ?_;go_wp2_with fail
 obtain⟨bp,bj,aj,ax,-⟩:=Bx a5 [.int .u8 1,.string ⟨#[60]⟩,zE,zJ,zD,zC,zE,zH,.int .u8 3,zC,zF,zJ,zD,zC,zE,zH,.int .u8 1,.string ⟨#[62]⟩,zE,zJ,zD,zC,zE,zH] 124;rw[bj];clear bj;refine(Aaj _ 3 3 bp).mono ?_;rintro e bw ⟨rfl,al⟩;go_wp2_with fail
 refine(Uz _ bw).mono ?_;rintro e c3 ⟨rfl,ap⟩;go_wp2_with fail
 refine(Alm _ c3).mono ?_;rintro e H ⟨rfl,ao⟩;have bR:=ax.size;have bS:=al.size;have cn:=ap.size;have co:=ao.size;have c4:=ar.lt;have a8:Below a5 a5 H:=ax.trans ((al.mono bR).trans ((ap.mono yE).trans (ao.mono yE)));have aa:=ar.below a8 c4;have cd:=aa.lt;have bN:=aa.cell (j:=13) rfl;have f13:=aa.frozen 13;go_upto_region 5 with fail
 have a6:=As H a0 13 (.slice (some ⟨H+1,0,none⟩) 2 2);have az:=aa.set 13 (.slice (some ⟨H+1,0,none⟩) 2 2);have aR:(H.setCell ⟨a0,13,none⟩ (.slice (some ⟨H+1,0,none⟩) 2 2)).heap.size=H.heap.size:=yF;generalize H.setCell ⟨a0,13,none⟩ (.slice (some ⟨H+1,0,none⟩) 2 2)=bu at a6 az aR|-;obtain⟨F,bd,aA,hA12,a3,-⟩:=Fk bu [.int .u8 9,zD,.string ⟨#[110]⟩,zE,zH,.int .u8 8,.float .f64 4607182418800017408,zC,zE,zH] [.int .u8 1,zC,.slice (some ⟨a5,0,none⟩) 3 3,zJ,zD,zC,zE,zH,.int .u8 3,.string ⟨#[110]⟩,zH,.int .u8 2,zD,zC,zE,.slice (some ⟨H,0,none⟩) 2 2] 118 120;rw[bd];have z12:=a3.size;clear bd bN f13;rw[aR]at aA hA12;have aW:=az.below a3 yE;have cl:=af.size;have aF:=bx.out;have ak:=aV.out;have cm:=O.size;have bJ:=hA12.lt;have bI:=aj.lt;have aZ:=((aj.below (al.trans ((ap.mono bS).trans (ao.mono yE))) aj.lt).grown a6 (B4 yE)).below a3 yE;have ba:G<a5:=yE;have b0:=Aa (Ag (Aa aH a8 ba) (a6.block G yE (B4 aE))) a3 yE;have b5:=Aa (Ag (Aa (Ag (Aa bh.range af yE) (O.block M yE (B4 yE))) a8 yE) (a6.block M yE (B4 yE))) a3 yE;obtain⟨m,hm⟩:∃m,m=w.heap.size+1:=⟨_,rfl⟩;have ad:∀b,m<=b->b<F.heap.size->SX m F b:=fun b h1 h2=>⟨h1,h2⟩
 have aC:∀X S,Cz X S Dd [zJ,zD,zC,zE,zH]:=fun X S=>I2 (E:=Df.cells) (K:=5) (⟨0,0,⟨#[]⟩,0⟩:Df) [] Gs
 have bc:∀X S,Cz X S Nd [.int .u8 9,zD,.string ⟨#[110]⟩,zE,zH]:=fun X S=>I2 (E:=Df.cells) (K:=5) (⟨9,0,Cq,0⟩:Df) [] Gs
 have bK:∀X S,Cz X S Xc [.int .u8 8,.float .f64 4607182418800017408,zC,zE,zH]:=fun X S=>I2 (E:=Df.cells) (K:=5) (⟨8,F8,⟨#[]⟩,0⟩:Df) [] Gs
 have bt:∀X S,B2 X S qR [.int .u8 2,zI,.int .u64 562949953421312,zI,zI,zE,zE,zH]:=fun X S=>I2 (E:=Cc.cells) (K:=8) (⟨2,0,562949953421312,0,0,0,0⟩:Cc) [] Gs
 have aD:∀X S,B2 X S Jn zZ:=fun X S=>I2 (E:=Cc.cells) (K:=8) (⟨0,0,0,0,0,0,0⟩:Cc) [] Gs
 have hAdd:Cz F (SX m F) Sv [.int .u8 2,zD,zC,zE,.slice (some ⟨H,0,none⟩) 2 2]:=
  I2 (E:=Df.cells) (K:=5) (⟨2,0,⟨#[]⟩,0⟩:Df) [Nd,Xc] (O9 Nd Xc [.int .u8 9,zD,.string ⟨#[110]⟩,zE,zH] [.int .u8 8,.float .f64 4607182418800017408,zC,zE,zH] aA.range (ad _ yE yE) rfl rfl (bc _ _) (bK _ _))
 have b7:B2 F (SX m F) xR [.int .u8 2,zI,.int .u64 72057594037927936,zI,zI,zE,zE,zH]:=I2 (E:=Cc.cells) (K:=8) (⟨2,0,72057594037927936,0,0,0,0⟩:Cc) [] Gs;have b8:B2 F (SX m F) yR [.int .u8 2,zI,.int .u64 144115188075855872,zI,zI,zE,zE,zH]:=I2 (E:=Cc.cells) (K:=8) (⟨2,0,144115188075855872,0,0,0,0⟩:Cc) [] Gs;have aN:B2 F (SX m F) gxR [.int .u8 6,zI,zI,zI,zI,zE,zE,.slice (some ⟨M,0,none⟩) 1 1]:=I2 (E:=Cc.cells) (K:=8) (⟨6,0,0,0,0,0,0⟩:Cc) [xR] (M6 xR [.int .u8 2,zI,.int .u64 72057594037927936,zI,zI,zE,zE,zH] b5 (ad _ yE yE) rfl b7);have b6:B2 F (SX m F) Rn [.int .u8 3,zI,zI,zI,zI,zE,zE,.slice (some ⟨G,0,none⟩) 2 2]:=I2 (E:=Cc.cells) (K:=8) (⟨3,0,0,0,0,0,0⟩:Cc) [gxR,yR] (O9 gxR yR [.int .u8 6,zI,zI,zI,zI,zE,zE,.slice (some ⟨M,0,none⟩) 1 1] [.int .u8 2,zI,.int .u64 144115188075855872,zI,zI,zE,zE,zH] b0 (ad _ yE yE) rfl rfl aN b8);have aO:Al Bz 8 F (SX m F) [ltP,Ab5,gtP] (.slice (some ⟨a5,0,none⟩) 3 3):=Gj [ltP,Ab5,gtP] [[.int .u8 1,.string ⟨#[60]⟩,zE,zJ,zD,zC,zE,zH],[.int .u8 3,zC,zF,zJ,zD,zC,zE,zH],[.int .u8 1,.string ⟨#[62]⟩,zE,zJ,zD,zC,zE,zH]] aZ.range (ad _ yE yE) rfl yF (fun i h1 h2=>by
  rcases(show i=0\/i=1\/i=2 by simp at h1;omega)with rfl | rfl | rfl<;>exact⟨_,rfl,aC _ _⟩)
 have aM:Al C2 8 F (SX m F) [Nv,Abf] (.slice (some ⟨H+1,0,none⟩) 2 2):=O9 Nv Abf [.int .u8 1,zC,.slice (some ⟨a5,0,none⟩) 3 3,zJ,zD,zC,zE,zH] [.int .u8 3,.string ⟨#[110]⟩,zH,.int .u8 2,zD,zC,zE,.slice (some ⟨H,0,none⟩) 2 2] hA12.range (ad _ yE yE) rfl rfl ⟨_,_,rfl,aO,aC _ _⟩ ⟨_,_,rfl,Gs,hAdd⟩;have b1:Bj F (SX m F) G9 [.int .u8 1,zA,zA,.int .u8 3,zI,zI,zI,zI,zE,zE,.slice (some ⟨G,0,none⟩) 2 2,zC,zE,.slice (some ⟨H+1,0,none⟩) 2 2,.string ⟨#[97]⟩,zE]:=⟨_,_,rfl,b6,aM⟩;have ac:∀X,Below F F X->Bj X (SX m X) G9 [.int .u8 1,zA,zA,.int .u8 3,zI,zI,zI,zI,zE,zE,.slice (some ⟨G,0,none⟩) 2 2,zC,zE,.slice (some ⟨H+1,0,none⟩) 2 2,.string ⟨#[97]⟩,zE]:=fun X aK=>Bj.Ab.wide (Bj.Ab.block b1 fun b U=>aK.block b U.2) fun b U=>⟨U.1,Zal U.2 aK.size⟩
 have aX:Ar F a0 48 [.int .u8 1,zA,zA,.int .u8 3,zI,zI,zI,zI,zE,zE,.slice (some ⟨G,0,none⟩) 2 2,zC,zE,.slice (some ⟨H+1,0,none⟩) 2 2,.string ⟨#[97]⟩,zE]:=aW;have br:m<=F.heap.size:=yE;have b9:a0<F:=yE;obtain⟨a2,aQ⟩:∃a2,a2=H.heap.size+1:=⟨_,rfl⟩;rw[<-aQ]at aX ac;have ae:Below w w F:=((au.trans (ai.mono au.size)).trans ((aw.mono yE).trans (af.mono yE))).grown O yE (fun r e=>yM) |>.trans (a8.mono yE) |>.grown a6 yE (fun r e=>yM) |>.trans (a3.mono yE);have aT:Below (w+1) aJ F:=((ai.mono yE).trans ((aw.mono yE).trans (af.mono yE))).grown O yE (fun r e=>yM) |>.trans (a8.mono yE) |>.grown a6 yE (fun r e=>yM) |>.trans (a3.mono yE);have b2:=bq.out.below aT yE;obtain⟨ah,tp⟩:∃ah,ah=F.heap.size:=⟨_,rfl⟩;rw[<-tp]at ac br b9;have aS:=Zaa tp;have bC:=Zaa b2;have bB:=Zaa ae;have c7:=Zaa hm;have bH:Below ah F (F.drewN 1):=sB;clear tp b2 ae aT b1 aM aO b6 aN b7 b8 hAdd b5 b0 aZ aA hA12 aW a6 az a3 aa a8 bI ax al ap ao aj aH O ar am an af aw bb bh ai au hm aQ;clear bJ aP ba aE;refine Tp 22 [(22,.inr ([],[]))] (fun X Y=>Below X X Y) (fun X=>Below ah F X) (V5 m G a2) yG yG (fun i v X Y h av=>V5.C4 h av) bH ?_ ?_
 ·intro i o bo aB vs X hI D
  have W:ah<=X.heap.size:=by have:=hI.size;have:=aS.out;omega
  have bT:=ac X hI;clear ac;generalize hA:Ew _ vs _ _ _=A;simp only[Ew,Im,Zia,Zah,Zao,Zav,Nat.reduceAdd,Zae,Zad,Zbs,Act.put,Zbm,Zfi,Zfj]at hA;subst hA;rcases(show i=0\/i=1\/i=2\/i=3\/i=4\/i=5\/i=6\/i=7\/i=8\/i=9\/i=10\/i=11\/i=12\/i=13\/i=14\/i=15\/i=16\/i=17\/i=18\/i=19\/i=20\/i=21 from yE)with rfl | rfl | rfl | rfl | rfl | rfl | rfl | rfl | rfl | rfl | rfl | rfl | rfl | rfl | rfl | rfl | rfl | rfl | rfl | rfl | rfl | rfl<;>cases aB
  ·skip
   exact Z11
  ·skip
   have h0:=D 0 yG;simp only[V5]at h0;exact Z11
  ·skip
   have h1:=D 1 yG;simp only[V5]at h1;go_simp;simp only[Ft];have U:=Bq X (.cells #[.string ⟨#[110]⟩,zB,zC,zD] 53);have V:=Ae X [.string ⟨#[110]⟩,zB,zC,zD] 53;have a1:SX m (X.alloc (.cells #[.string ⟨#[110]⟩,zB,zC,zD] 53)) X:=⟨yE,yF⟩;exact⟨hI.trans (U.mono W),U,X.heap.size,rfl,M6 _ _ V a1 rfl rfl⟩
  ·have g:=aX.below hI b9
   refine Z3e ?_;intro g0 g1 g2 g3 g4 g5 g6 g7;have g8:=g.cell (j:=8) rfl;have g9:=g.cell (j:=9) rfl;have g10:=g.cell (j:=10) rfl;have g11:=g.cell (j:=11) rfl;have g12:=g.cell (j:=12) rfl;have g13:=g.cell (j:=13) rfl;have g14:=g.cell (j:=14) rfl;have g15:=g.cell (j:=15) rfl;exact Z11
  ·skip
   exact Z11
  ·skip
   exact Z11
  ·skip
   go_simp;exact(Uz _ X).mono fun e Y ⟨h1,h2⟩=>⟨_,h1,hI.trans (h2.mono W),h2,rfl⟩
  ·skip
   have h6:=D 6 yG;simp only[V5]at h6;exact Z11
  ·skip
   have h7:=D 7 yG;simp only[V5]at h7;go_simp;simp only[Ft];have U:=Bq X (.cells #[.int .u8 4,zC,zE,.int .u8 9,zD,.string ⟨#[110]⟩,zE,zH] 124);have V:=Ae X [.int .u8 4,zC,zE,.int .u8 9,zD,.string ⟨#[110]⟩,zE,zH] 124;have a1:SX m (X.alloc (.cells #[.int .u8 4,zC,zE,.int .u8 9,zD,.string ⟨#[110]⟩,zE,zH] 124)) X:=⟨yE,yF⟩;exact⟨hI.trans (U.mono W),U,X.heap.size,rfl,M6 _ _ V a1 rfl ⟨_,rfl,bc _ _⟩⟩
  ·have h5:=D 5 yG
   simp only[V5]at h5;obtain⟨b,bU,bm⟩:=D 8 yG;go_simp;exact(Aaj _ 1 1 X).mono fun e Y ⟨h1,h2⟩=>⟨_,h1,hI.trans (h2.mono W),h2,b,rfl,Eb Bz.Ab h2 (bU▸bm)⟩
  ·skip
   obtain⟨b,ct,bn⟩:=D 9 yG;go_simp;simp only[Ft];have U:=Bq X (.cells #[.int .u8 1,zC,.slice (some ⟨b,0,none⟩) 1 1,zJ,zD,zC,zE,zH] 120);have V:=Ae X [.int .u8 1,zC,.slice (some ⟨b,0,none⟩) 1 1,zJ,zD,zC,zE,zH] 120;have a1:SX m (X.alloc (.cells #[.int .u8 1,zC,.slice (some ⟨b,0,none⟩) 1 1,zJ,zD,zC,zE,zH] 120)) X:=⟨yE,yF⟩;exact⟨hI.trans (U.mono W),U,X.heap.size,rfl,M6 _ _ V a1 rfl ⟨_,_,rfl,Eb Bz.Ab U bn,aC _ _⟩⟩
  ·obtain⟨b,bD,bX⟩:=D 10 yG
   go_simp;simp only[Ft];exact⟨hI,Zai _ _,b,rfl,bD▸bX⟩
  ·skip
   exact Z11
  ·skip
   have h3:=D 3 yG;simp only[V5]at h3;have h4:=D 4 yG;simp only[V5]at h4;have h12:=D 12 yG;simp only[V5]at h12;obtain⟨b,cg,bO⟩:=D 11 yG;go_simp;simp only[Ft];have U:=Bq X (.cells #[.int .u8 1,.bool false,.bool false,.int .u8 3,.int .u64 0,.int .u64 0,.int .u64 0,.int .u64 0,.int .i64 0,.int .i64 0,.slice (some ⟨G,0,none⟩) 2 2,.string ⟨#[]⟩,.int .i64 0,.slice (some ⟨a2,0,none⟩) 2 2,.string ⟨#[97]⟩,.int .i64 0,.int .u8 2,.bool false,.bool false,.int .u8 0,.int .u64 0,.int .u64 0,.int .u64 0,.int .u64 0,.int .i64 0,.int .i64 0,.slice none 0 0,.string ⟨#[122,122]⟩,.int .i64 0,.slice none 0 0,.string ⟨#[98]⟩,.int .i64 0,.int .u8 4,.bool false,.bool false,.int .u8 0,.int .u64 0,.int .u64 0,.int .u64 0,.int .u64 0,.int .i64 0,.int .i64 0,.slice none 0 0,.string ⟨#[]⟩,.int .i64 2,.slice (some ⟨b,0,none⟩) 1 1,.string ⟨#[98]⟩,.int .i64 0,.int .u8 3,.bool false,.bool false,.int .u8 0,.int .u64 0,.int .u64 0,.int .u64 0,.int .u64 0,.int .i64 0,.int .i64 0,.slice none 0 0,.string ⟨#[]⟩,.int .i64 0,.slice none 0 0,.string ⟨#[]⟩,.int .i64 3] 48);have V:=Ae X [.int .u8 1,.bool false,.bool false,.int .u8 3,.int .u64 0,.int .u64 0,.int .u64 0,.int .u64 0,.int .i64 0,.int .i64 0,.slice (some ⟨G,0,none⟩) 2 2,.string ⟨#[]⟩,.int .i64 0,.slice (some ⟨a2,0,none⟩) 2 2,.string ⟨#[97]⟩,.int .i64 0,.int .u8 2,.bool false,.bool false,.int .u8 0,.int .u64 0,.int .u64 0,.int .u64 0,.int .u64 0,.int .i64 0,.int .i64 0,.slice none 0 0,.string ⟨#[122,122]⟩,.int .i64 0,.slice none 0 0,.string ⟨#[98]⟩,.int .i64 0,.int .u8 4,.bool false,.bool false,.int .u8 0,.int .u64 0,.int .u64 0,.int .u64 0,.int .u64 0,.int .i64 0,.int .i64 0,.slice none 0 0,.string ⟨#[]⟩,.int .i64 2,.slice (some ⟨b,0,none⟩) 1 1,.string ⟨#[98]⟩,.int .i64 0,.int .u8 3,.bool false,.bool false,.int .u8 0,.int .u64 0,.int .u64 0,.int .u64 0,.int .u64 0,.int .i64 0,.int .i64 0,.slice none 0 0,.string ⟨#[]⟩,.int .i64 0,.slice none 0 0,.string ⟨#[]⟩,.int .i64 3] 48;have a1:SX m (X.alloc (.cells #[.int .u8 1,.bool false,.bool false,.int .u8 3,.int .u64 0,.int .u64 0,.int .u64 0,.int .u64 0,.int .i64 0,.int .i64 0,.slice (some ⟨G,0,none⟩) 2 2,.string ⟨#[]⟩,.int .i64 0,.slice (some ⟨a2,0,none⟩) 2 2,.string ⟨#[97]⟩,.int .i64 0,.int .u8 2,.bool false,.bool false,.int .u8 0,.int .u64 0,.int .u64 0,.int .u64 0,.int .u64 0,.int .i64 0,.int .i64 0,.slice none 0 0,.string ⟨#[122,122]⟩,.int .i64 0,.slice none 0 0,.string ⟨#[98]⟩,.int .i64 0,.int .u8 4,.bool false,.bool false,.int .u8 0,.int .u64 0,.int .u64 0,.int .u64 0,.int .u64 0,.int .i64 0,.int .i64 0,.slice none 0 0,.string ⟨#[]⟩,.int .i64 2,.slice (some ⟨b,0,none⟩) 1 1,.string ⟨#[98]⟩,.int .i64 0,.int .u8 3,.bool false,.bool false,.int .u8 0,.int .u64 0,.int .u64 0,.int .u64 0,.int .u64 0,.int .i64 0,.int .i64 0,.slice none 0 0,.string ⟨#[]⟩,.int .i64 0,.slice none 0 0,.string ⟨#[]⟩,.int .i64 3] 48)) X:=⟨yE,yF⟩;have bL:=Eb C2.Ab U bO;have bv:Bj (X.alloc (.cells #[.int .u8 1,.bool false,.bool false,.int .u8 3,.int .u64 0,.int .u64 0,.int .u64 0,.int .u64 0,.int .i64 0,.int .i64 0,.slice (some ⟨G,0,none⟩) 2 2,.string ⟨#[]⟩,.int .i64 0,.slice (some ⟨a2,0,none⟩) 2 2,.string ⟨#[97]⟩,.int .i64 0,.int .u8 2,.bool false,.bool false,.int .u8 0,.int .u64 0,.int .u64 0,.int .u64 0,.int .u64 0,.int .i64 0,.int .i64 0,.slice none 0 0,.string ⟨#[122,122]⟩,.int .i64 0,.slice none 0 0,.string ⟨#[98]⟩,.int .i64 0,.int .u8 4,.bool false,.bool false,.int .u8 0,.int .u64 0,.int .u64 0,.int .u64 0,.int .u64 0,.int .i64 0,.int .i64 0,.slice none 0 0,.string ⟨#[]⟩,.int .i64 2,.slice (some ⟨b,0,none⟩) 1 1,.string ⟨#[98]⟩,.int .i64 0,.int .u8 3,.bool false,.bool false,.int .u8 0,.int .u64 0,.int .u64 0,.int .u64 0,.int .u64 0,.int .i64 0,.int .i64 0,.slice none 0 0,.string ⟨#[]⟩,.int .i64 0,.slice none 0 0,.string ⟨#[]⟩,.int .i64 3] 48)) (SX m (X.alloc (.cells #[.int .u8 1,.bool false,.bool false,.int .u8 3,.int .u64 0,.int .u64 0,.int .u64 0,.int .u64 0,.int .i64 0,.int .i64 0,.slice (some ⟨G,0,none⟩) 2 2,.string ⟨#[]⟩,.int .i64 0,.slice (some ⟨a2,0,none⟩) 2 2,.string ⟨#[97]⟩,.int .i64 0,.int .u8 2,.bool false,.bool false,.int .u8 0,.int .u64 0,.int .u64 0,.int .u64 0,.int .u64 0,.int .i64 0,.int .i64 0,.slice none 0 0,.string ⟨#[122,122]⟩,.int .i64 0,.slice none 0 0,.string ⟨#[98]⟩,.int .i64 0,.int .u8 4,.bool false,.bool false,.int .u8 0,.int .u64 0,.int .u64 0,.int .u64 0,.int .u64 0,.int .i64 0,.int .i64 0,.slice none 0 0,.string ⟨#[]⟩,.int .i64 2,.slice (some ⟨b,0,none⟩) 1 1,.string ⟨#[98]⟩,.int .i64 0,.int .u8 3,.bool false,.bool false,.int .u8 0,.int .u64 0,.int .u64 0,.int .u64 0,.int .u64 0,.int .i64 0,.int .i64 0,.slice none 0 0,.string ⟨#[]⟩,.int .i64 0,.slice none 0 0,.string ⟨#[]⟩,.int .i64 3] 48))) G9 [.int .u8 1,zA,zA,.int .u8 3,zI,zI,zI,zI,zE,zE,.slice (some ⟨G,0,none⟩) 2 2,zC,zE,.slice (some ⟨a2,0,none⟩) 2 2,.string ⟨#[97]⟩,zE]:=Bj.Ab.wide (Bj.Ab.block bT fun b aq=>U.block b aq.2) fun b aq=>⟨aq.1,Zal aq.2 U.size⟩
   have c9:∀i (h1:i<Db.Ai.length) (h2:i< ([[.int .u8 1,zA,zA,.int .u8 3,zI,zI,zI,zI,zE,zE,.slice (some ⟨G,0,none⟩) 2 2,zC,zE,.slice (some ⟨a2,0,none⟩) 2 2,.string ⟨#[97]⟩,zE],[.int .u8 2,zA,zA,zJ,zI,zI,zI,zI,zE,zE,zH,.string ⟨#[122,122]⟩,zE,zH,.string ⟨#[98]⟩,zE],[.int .u8 4,zA,zA,zJ,zI,zI,zI,zI,zE,zE,zH,zC,.int .i64 2,.slice (some ⟨b,0,none⟩) 1 1,.string ⟨#[98]⟩,zE],[.int .u8 3,zA,zA,zJ,zI,zI,zI,zI,zE,zE,zH,zC,zE,zH,zC,.int .i64 3]]:List (List Value)).length),Bj (X.alloc (.cells #[.int .u8 1,.bool false,.bool false,.int .u8 3,.int .u64 0,.int .u64 0,.int .u64 0,.int .u64 0,.int .i64 0,.int .i64 0,.slice (some ⟨G,0,none⟩) 2 2,.string ⟨#[]⟩,.int .i64 0,.slice (some ⟨a2,0,none⟩) 2 2,.string ⟨#[97]⟩,.int .i64 0,.int .u8 2,.bool false,.bool false,.int .u8 0,.int .u64 0,.int .u64 0,.int .u64 0,.int .u64 0,.int .i64 0,.int .i64 0,.slice none 0 0,.string ⟨#[122,122]⟩,.int .i64 0,.slice none 0 0,.string ⟨#[98]⟩,.int .i64 0,.int .u8 4,.bool false,.bool false,.int .u8 0,.int .u64 0,.int .u64 0,.int .u64 0,.int .u64 0,.int .i64 0,.int .i64 0,.slice none 0 0,.string ⟨#[]⟩,.int .i64 2,.slice (some ⟨b,0,none⟩) 1 1,.string ⟨#[98]⟩,.int .i64 0,.int .u8 3,.bool false,.bool false,.int .u8 0,.int .u64 0,.int .u64 0,.int .u64 0,.int .u64 0,.int .i64 0,.int .i64 0,.slice none 0 0,.string ⟨#[]⟩,.int .i64 0,.slice none 0 0,.string ⟨#[]⟩,.int .i64 3] 48)) (SX m (X.alloc (.cells #[.int .u8 1,.bool false,.bool false,.int .u8 3,.int .u64 0,.int .u64 0,.int .u64 0,.int .u64 0,.int .i64 0,.int .i64 0,.slice (some ⟨G,0,none⟩) 2 2,.string ⟨#[]⟩,.int .i64 0,.slice (some ⟨a2,0,none⟩) 2 2,.string ⟨#[97]⟩,.int .i64 0,.int .u8 2,.bool false,.bool false,.int .u8 0,.int .u64 0,.int .u64 0,.int .u64 0,.int .u64 0,.int .i64 0,.int .i64 0,.slice none 0 0,.string ⟨#[122,122]⟩,.int .i64 0,.slice none 0 0,.string ⟨#[98]⟩,.int .i64 0,.int .u8 4,.bool false,.bool false,.int .u8 0,.int .u64 0,.int .u64 0,.int .u64 0,.int .u64 0,.int .i64 0,.int .i64 0,.slice none 0 0,.string ⟨#[]⟩,.int .i64 2,.slice (some ⟨b,0,none⟩) 1 1,.string ⟨#[98]⟩,.int .i64 0,.int .u8 3,.bool false,.bool false,.int .u8 0,.int .u64 0,.int .u64 0,.int .u64 0,.int .u64 0,.int .i64 0,.int .i64 0,.slice none 0 0,.string ⟨#[]⟩,.int .i64 0,.slice none 0 0,.string ⟨#[]⟩,.int .i64 3] 48))) Db.Ai[i] ([[.int .u8 1,zA,zA,.int .u8 3,zI,zI,zI,zI,zE,zE,.slice (some ⟨G,0,none⟩) 2 2,zC,zE,.slice (some ⟨a2,0,none⟩) 2 2,.string ⟨#[97]⟩,zE],[.int .u8 2,zA,zA,zJ,zI,zI,zI,zI,zE,zE,zH,.string ⟨#[122,122]⟩,zE,zH,.string ⟨#[98]⟩,zE],[.int .u8 4,zA,zA,zJ,zI,zI,zI,zI,zE,zE,zH,zC,.int .i64 2,.slice (some ⟨b,0,none⟩) 1 1,.string ⟨#[98]⟩,zE],[.int .u8 3,zA,zA,zJ,zI,zI,zI,zI,zE,zE,zH,zC,zE,zH,zC,.int .i64 3]]:List (List Value))[i]:=by
    intro i h1 h2;rcases(show i=0\/i=1\/i=2\/i=3 from vC)with rfl | rfl | rfl | rfl
    ·exact bv
    ·exact⟨_,_,rfl,aD _ _,Gs⟩
    ·exact⟨_,_,rfl,aD _ _,bL⟩
    exact⟨_,_,rfl,aD _ _,Gs⟩
   exact⟨hI.trans (U.mono W),U,X.heap.size,rfl,Gj Db.Ai [[.int .u8 1,zA,zA,.int .u8 3,zI,zI,zI,zI,zE,zE,.slice (some ⟨G,0,none⟩) 2 2,zC,zE,.slice (some ⟨a2,0,none⟩) 2 2,.string ⟨#[97]⟩,zE],[.int .u8 2,zA,zA,zJ,zI,zI,zI,zI,zE,zE,zH,.string ⟨#[122,122]⟩,zE,zH,.string ⟨#[98]⟩,zE],[.int .u8 4,zA,zA,zJ,zI,zI,zI,zI,zE,zE,zH,zC,.int .i64 2,.slice (some ⟨b,0,none⟩) 1 1,.string ⟨#[98]⟩,zE],[.int .u8 3,zA,zA,zJ,zI,zI,zI,zI,zE,zE,zH,zC,zE,zH,zC,.int .i64 3]] V a1 rfl yF c9⟩
  ·obtain⟨b,bz,bP⟩:=D 13 yG
   go_simp;simp only[Ft];exact⟨hI,Zai _ _,b,rfl,bz▸bP⟩
  ·skip
   go_simp;exact(Alx X).mono fun e Y ⟨h1,h2⟩=>⟨_,h1,hI.trans (h2.mono W),h2,rfl⟩
  ·skip
   have h15:=D 15 yG;simp only[V5]at h15;exact Z11
  ·skip
   have h16:=D 16 yG;simp only[V5]at h16;exact Z11
  ·skip
   have h17:=D 17 yG;simp only[V5]at h17;go_simp;simp only[Ft];have U:=Bq X (.cells #[.int .u8 1,zA,zB,.int .u8 2,zI,.int .u64 562949953421312,zI,zI,zE,zE,zH,zC,zE,zH,zC,zE] 48);have V:=Ae X [.int .u8 1,zA,zB,.int .u8 2,zI,.int .u64 562949953421312,zI,zI,zE,zE,zH,zC,zE,zH,zC,zE] 48;have a1:SX m (X.alloc (.cells #[.int .u8 1,zA,zB,.int .u8 2,zI,.int .u64 562949953421312,zI,zI,zE,zE,zH,zC,zE,zH,zC,zE] 48)) X:=⟨yE,yF⟩;exact⟨hI.trans (U.mono W),U,X.heap.size,rfl,M6 _ _ V a1 rfl ⟨_,_,rfl,bt _ _,Gs⟩⟩
  ·obtain⟨b,bE,bZ⟩:=D 18 yG
   go_simp;simp only[Ft];exact⟨hI,Zai _ _,b,rfl,bE▸bZ⟩
  ·obtain⟨b,ch,bY⟩:=D 14 yG
   obtain⟨c,ci,bQ⟩:=D 19 yG;go_simp;simp only[Ft];have U:=Bq X (.cells #[.string ⟨#[97]⟩,.slice (some ⟨b,0,none⟩) 4 4,.string ⟨#[98]⟩,.slice (some ⟨c,0,none⟩) 1 1] 37);have V:=Ae X [.string ⟨#[97]⟩,.slice (some ⟨b,0,none⟩) 4 4,.string ⟨#[98]⟩,.slice (some ⟨c,0,none⟩) 1 1] 37;exact⟨hI.trans (U.mono W),U,X.heap.size,rfl,O9 Db G3 [.string ⟨#[97]⟩,.slice (some ⟨b,0,none⟩) 4 4] [.string ⟨#[98]⟩,.slice (some ⟨c,0,none⟩) 1 1] V ⟨yE,yF⟩ rfl rfl ⟨_,rfl,Eb Bj.Ab U bY⟩ ⟨_,rfl,Eb Bj.Ab U bQ⟩⟩
  obtain⟨b,ay,aG⟩:=D 2 yG;obtain⟨c,bF,c0⟩:=D 20 yG;go_simp;simp only[Ft];exact⟨hI,Zai _ _,b,c,rfl,ay▸aG,bF▸c0⟩
 intro vs a4 aI D;obtain⟨b,c,bG,b4,b3⟩:=D 21 yE;have hm:=c7.out;have tp:=aS.out;have ae:=bB.out;have ck:=aI.size;have cj:=ae.size;have aY:=bC.out.below aI yE;have ag:=Zaa aY.there;have hF:=aY.fill (vs:=[.int .i64 4,.slice (some ⟨b,0,none⟩) 1 1,.slice (some ⟨c,0,none⟩) 2 2]) rfl;have O:=Ao a4 w [.int .i64 4,.slice (some ⟨b,0,none⟩) 1 1,.slice (some ⟨c,0,none⟩) 2 2] 0;have c8:=O.size;have bk:A0 (a4.setCells w 0 [.int .i64 4,.slice (some ⟨b,0,none⟩) 1 1,.slice (some ⟨c,0,none⟩) 2 2]) (fun q=>w<=q/\q< (a4.setCells w 0 [.int .i64 4,.slice (some ⟨b,0,none⟩) 1 1,.slice (some ⟨c,0,none⟩) 2 2]).heap.size) A9 [.int .i64 4,.slice (some ⟨b,0,none⟩) 1 1,.slice (some ⟨c,0,none⟩) 2 2]:=by
  refine⟨_,_,rfl,(Al.Ab Dy.Ab).wide ((Al.Ab Dy.Ab).block b4 (w':=a4.setCells w 0 [.int .i64 4,.slice (some ⟨b,0,none⟩) 1 1,.slice (some ⟨c,0,none⟩) 2 2]) fun k T=>O.block k T.2 (B4 (by have:=T.1;omega))) fun k T=>⟨by have:=T.1;omega,by have:=T.2;omega⟩,(Al.Ab Cf.Ab).wide ((Al.Ab Cf.Ab).block b3 (w':=a4.setCells w 0 [.int .i64 4,.slice (some ⟨b,0,none⟩) 1 1,.slice (some ⟨c,0,none⟩) 2 2]) fun k T=>O.block k T.2 (B4 (by have:=T.1;omega))) fun k T=>⟨by have:=T.1;omega,by have:=T.2;omega⟩⟩
 have bl:Below w w (a4.setCells w 0 [.int .i64 4,.slice (some ⟨b,0,none⟩) 1 1,.slice (some ⟨c,0,none⟩) 2 2]):=(ae.trans (aI.mono yE)).grown O yE (fun r e=>yM);simp only[Ew,Im,Zah,Zao,Zav,Nat.reduceAdd,Zae,Zad,Zbs,Act.put,Nat.reduceLT,decide_true,decide_false,Zia,Zbd,Zhz,bG,Bi,Zak,Zan,Zaj,Zbm,Zfi,Zfj];clear D b4 b3 ac;refine A1 rfl (fun K J=>?_);go_wp2_with (refine Zil rfl 30 _ _ rfl w.heap.size 0 #[.int .i64 4,.slice (some ⟨b,0,none⟩) 1 1,.slice (some ⟨c,0,none⟩) 2 2] rfl rfl ag.out yG yL ?_)
 refine Z3y ?_;clear J K ag;generalize a4.setCells w 0 [.int .i64 4,.slice (some ⟨b,0,none⟩) 1 1,.slice (some ⟨c,0,none⟩) 2 2]=cc at hF O c8 bk bl|-;refine B1 ?_;go_wp2_with fail
 exact Zho (v:=.agg #[.int .i64 4,.slice (some ⟨b,0,none⟩) 1 1,.slice (some ⟨c,0,none⟩) 2 2]) (Aq rfl _ _ w 0 [.int .i64 4,.slice (some ⟨b,0,none⟩) 1 1,.slice (some ⟨c,0,none⟩) 2 2] rfl hF.range yG yG) rfl ⟨[.int .i64 4,.slice (some ⟨b,0,none⟩) 1 1,.slice (some ⟨c,0,none⟩) 2 2],rfl,rfl,bk,bl⟩
end
section
open Tryz Go.RowKit Go.Shelf
theorem Jy {P:Program} {ops:Array Oper} {o:Oper} {a:Act} {w:zN} {K:Act->World->Prop} (M:o.guard=none) (s x:Operand) (t:TypeId) (T:o.op=.call {callee:=.builtin .append,args:=#[s,x],argTypes:=#[t,t]})
  (e:TypeId) (bytes:Nat) (W:P.underlying t=some (.slice e)) (ae:(P.info? e).map (fun i=>(i.size,i.bytes,i.zero.map fun z=>z.cells.size))=some (1,bytes,some 1)) (a2:bytes<=1000)
  (O:a.eval s=.slice none 0 0) (g:Nat) (G:a.eval x=.slice (some ⟨g,0,none⟩) 1 1) (u:Value) (hu:w.cell? ⟨g,0,none⟩=some u) (h1:u.oneCell'=true)
  (h:∀v w',Dc w' w e 1 v [[u]]->Below w w w'->K (a.put o.dst v) w'):wpList P ops (Dz fun _ J w'=>K J w') [o] a w:=by
 obtain⟨i,z,a0,D,V,U,a1⟩:∃i z,P.info? e=some i/\i.zero=some z/\i.size=1/\i.bytes=bytes/\z.cells.size=1:=by
  cases hp:P.info? e with
  | none=>rw[hp]at ae;cases ae
  | some i=>
   rw[hp]at ae;simp only[Zaj,Zbb,Zgr]at ae;cases D:i.zero with
   | none=>rw[D]at ae;simp at ae
   | some z=>rw[D]at ae;exact⟨i,z,rfl,D,ae.1,ae.2.1,uH⟩
 refine wpList_append_own_at _ M s x t T w e i z 1 bytes W a0 D V U a1 yE (.slice none 0 0) 0 [] O (Zhi w w e 1) ⟨g,0,none⟩ 1 1 [u] G yF (fun j v F=>?_) vD (by simp[maxLen]) yE (Zab _) ?_
 ·cases j with
  | zero=>cases F;exact hu
  | succ j=>simp at F
 intro Y w' q1 A _ _
 refine Z4a ?_
 refine h Y w' ⟨q1,yF⟩ ⟨A.os,A.tape,A.output,A.size,fun k H=>A.block k H wO⟩
theorem Oa:prog.underlying 283=some (.slice 49):=yG
theorem Pu:(prog.info? 49).map (fun i=>(i.size,i.bytes,i.zero.map fun z=>z.cells.size))=some (1,8,some 1):=yG
theorem Aft (w:zN) (af lb ax x:Nat) (h:G5 w af lb ax x) (Bv:List (List Value)) (am:zO) (ba:Nat) (hlen:Bv.length<=100) (aN:Bs w w 1 am Bv) (bu:am=none->Bv=[]) (h1:∀u∈Bv.flatten,u.oneCell'=true) (bv:∀u∈Bv,u.length=1):
  Calls prog 171 #[zK af,.slice am Bv ba] w fun e w'=>∃a2 a1 au,e=.returned (.agg #[a2,a1,au])/\Dc w' w 9 1 a2 [[Cq]]/\Dc w' w 49 1 a1 [[.float .f64 x]]/\Dc w' w 9 1 au Bv/\Below w w w':=by
 have bx:=(show af<w from by obtain⟨_,_,_,U,_⟩:=h.box;exact U.lt)
 have be:lb<w:=(by obtain⟨_,_,_,_,bn⟩:=h.box;exact(bn.lt lb rfl).2)
 have bf:ax<w:=(by obtain⟨_,_,hm⟩:=h.map;exact(Zbx.1 hm).1)
 have J:=Zaa fun(X:zN) (H:Below w w X)=>h.C4 (A8.By (P:=fun b=>b<w) H (fun _ h=>h)) bx be bf
 have aQ:=Zaa fun(X:zN) (H:Below w w X)=>Ab2 Bv am ba X w H.size yE (aN.below H (Zab _)) bu h1
 obtain⟨bj,bk,aI,ab,bD⟩:=Bx w [zH,zH,zH] 285
 clear be bf aN h
 go_enter func171,ntmps171
 go_upto_region 1 with fail
 clear bk
 go_wp2_with fail
 refine(aQ.out bj ab).mono ?_
 rintro e ad ⟨au,rfl,b9,av⟩
 have aK:=ab.trans (av.mono ab.size)
 have an:Dc ad (w+1) 9 1 au Bv:=⟨Du b9 yE,bv⟩
 obtain⟨G,F,rfl,-⟩:=an.shape
 have a9:=aI.below av aI.lt
 have bl:=a9.cell (j:=0) rfl
 go_upto_region 2 with fail
 obtain⟨aw,b5,aL,ac,bH⟩:=Bx ad [zH,zH,.slice G Bv F] 285
 clear b9
 rw[show ad.alloc (.cells #[zH,zH,.slice G Bv F] 285)=aw from b5]
 clear b5 bl
 have ap:=aK.trans (ac.mono aK.size)
 have b0:=an.below ac (Zab _)
 have aD:=a9.below ac a9.lt
 have aV:=Zaa (Va aw af lb ax x (J.out aw ap))
 go_wp2_with fail
 refine aV.out.mono ?_
 rintro e ay ⟨bz,rfl,bw,a8⟩
 have bd:=ap.trans (a8.mono ap.size)
 have b3:=b0.below a8 (Zab _)
 have aR:=aL.below a8 aL.lt
 have bc:=aD.below a8 aD.lt
 obtain bq | ⟨bG,lc,rfl,bC,bA,bb⟩:=bw.at_
 ·cases bq
 have aa:=bb 0 yF
 have d0:=aa 0 _ rfl
 have d1:=aa 1 _ rfl
 have d2:=aa 2 _ rfl
 have d3:=aa 3 _ rfl
 simp only[Zgl,Zaf,Zac]at d0 d1 d2 d3
 have bE:w.heap.size<ad:=a9.lt
 have bp:=fun k bi=>(an.lt k bi).2
 clear bb aa aQ J aI a9 aL aD an b0 aV
 have bF:ad.heap.size<ay:=aR.lt
 simp only[Zao,Zav,Zac]
 go_wp2_with fail
 go_loopw [14] (fun ar wr=>(ar=.int .i64 0/\wr=ay)\/(ar=.int .i64 1/\∃a2 a1,Ar wr ad 285 [a2,a1,.slice G Bv F]/\Dc wr (w+1) 9 1 a2 [[Cq]]/\Dc wr (w+1) 49 1 a1 [[.float .f64 x]]/\ay.grownBy wr (some ad.heap.size))) (fun ar _=>1 - (intOf ar).toNat)
 case atStart=>exact .inl ⟨rfl,rfl⟩
 case round=>
  rcases hrel with⟨rfl,rfl⟩ | ⟨rfl,a2,a1,a7,al,ae,ak⟩
  ·go_upto_region 6 with fail
   have aB:=((aR.alloc (.cells (Fs x).toArray 53)).drewN 1);have aC:=((Ar.new wr 53 (Fs x)).drewN 1);have aU:Below wr wr ((wr.alloc (.cells (Fs x).toArray 53)).drewN 1):=Bk (Bq wr _) 1 yF;have aO:wr.heap.size+1<=((wr.alloc (.cells (Fs x).toArray 53)).drewN 1).heap.size:=yF;clear d0 d1 d2 d3 bc b3 bd ap aK ac a8 ab av;refine Mn [(4,[0]),(5,[0]),(11,[0]),(12,[]),(14,[]),(16,[])] [(0,.inl none),(1,.inl (some 0)),(2,.inl none),(3,.inl (some 0)),(6,.inl none),(7,.inl (some 0)),(8,.inl none),(9,.inl none),(10,.inl (some 0))]
    (.two 4 ([0],[0]) [] (.two 5 ([0],[0]) [(13,.inl none),(11,.inr ([0],[0])),(12,.inr ([],[])),(14,.inr ([],[])),(15,.inl none),(16,.inr ([],[]))] .done 11 ([0],[0]) [(5,.inr ([0],[0])),(13,.inl none),(12,.inr ([],[])),(14,.inr ([],[])),(15,.inl none),(16,.inr ([],[]))] .done)
     11 ([0],[0]) [(4,.inr ([0],[0])),(5,.inr ([0],[0])),(13,.inl none),(12,.inr ([],[])),(14,.inr ([],[])),(15,.inl none),(16,.inr ([],[]))] .done)
    (fun _ X=>Ar X ad 285 [zH,zH,.slice G Bv F]/\Ar X wr 53 (Fs x)) [0] yG yG (fun _ _=>⟨aB,aC⟩) ?_
   refine Z3s ?_;obtain⟨wd,az⟩:=zL ((wr.alloc (.cells (Fs x).toArray 53)).drewN 1);rw[show(wr.alloc (.cells #[Cq,zB,zC,.float .f64 x] 53)).drewN 1=wd from az];rw[az]at aU aO aB aC;clear az;have ag:=aB;have cf:∀ {W:zN} {e:TypeId} {v:Value} {a3:List (List Value)},Dc W wr e 1 v a3->v.ownBlock=none\/v.ownBlock≠some ad.heap.size:=fun {W e v a3} h=>by
    cases a4:v.ownBlock with
    | none=>exact .inl rfl
    | some k=>refine .inr ?_;have:=(h.lt k a4).1;simp;omega
   have ah:=aC;have aP:=aU;have aS:=aO;have bs:=ag.cell (j:=0) rfl;have b1:=ag.cell (j:=1) rfl;have b2:=ah.cell (j:=0) rfl;have bt:=ah.cell (j:=3) rfl;refine Z3Z ?_;refine Ba (.slice none 0 0) yI (fun w' a0=>?_) (fun K J=>?_)
   ·have bh:=a0.1.cell (j:=0) rfl
    go_simp
   refine Z2n ?_;clear J K;refine Z3Z ?_;refine Ba (.string Cq) yI (fun w' a0=>?_) (fun K J=>?_)
   ·have bh:=a0.2.cell (j:=0) rfl
    go_simp
   refine Z2n ?_;clear J K;refine Z3Z ?_;refine Ba (.slice none 0 0) yI (fun w' a0=>?_) (fun K J=>?_)
   ·have bh:=a0.1.cell (j:=1) rfl
    go_simp
   refine Z2n ?_;clear J K;refine Z03 ?_;refine Ba (.float .f64 x) yI (fun w' a0=>?_) (fun K J=>?_)
   ·have bh:=a0.2.cell (j:=3) rfl
    go_simp
   refine Z2n ?_;clear J K;refine B1 ?_;clear bs b1 b2 bt;simp only[Pj,Bi,Zak,Zan,Zah,Zad,Zae,Zaj];refine⟨?_,?_⟩
   ·refine A1 rfl (fun K J=>?_)
    go_wp2_with fail
    obtain⟨D,O⟩:=zL (wd.alloc (.cells #[Cq] 9));rw[O];have bk8:Ar D wd 9 [Cq]:=by rw[<-O];exact Ar.new wd 9 _
    have V:Below wd wd D:=by rw[<-O];exact Bq _ _
    clear O;have ba6:=ag.below V yE;have bag:=ah.below V yE;have bW:=aP.trans (V.mono yE);have lC:wr.heap.size+1<=D:=Zag aS V.size;refine J _ _ (fun _ _=>⟨ba6,bag⟩) (fun _ _ _=>⟨ba6,bag⟩) ?_;clear J K;refine B1 ?_;refine⟨?_,?_⟩
    ·refine A1 rfl (fun K J=>?_)
     refine Jy rfl _ _ 85 rfl 9 16 K6 M7 yH rfl _ rfl (.string Cq) (bk8.cell (j:=0) rfl) rfl ?_;intro v5 n2 ai mm;replace ai:Dc n2 wr 9 1 v5 [[Cq]]:=⟨Du ai.1 yE,ai.2⟩;refine Z4e ?_;intro eU fE zs gR iB;clear J K;refine Z04 ?_;refine A1 rfl (fun K J=>?_);go_wp2_with fail
     obtain⟨sz,ao⟩:=zL (n2.alloc (.cells #[.float .f64 x] 49));rw[ao];have fN:Ar sz n2 49 [.float .f64 x]:=by rw[<-ao];exact Ar.new n2 49 _
     have lk:Below n2 n2 sz:=by rw[<-ao];exact Bq _ _
     clear ao;refine Z52 ?_;intro eV fF gI bbp;have Y:=iB.below lk iB.lt;have M:=ai.below lk (Zab _);refine J _ _ (fun _ _=>⟨eV,fF⟩) (fun _ _ _=>⟨eV,fF⟩) ?_;clear J K;refine A1 rfl (fun K J=>?_);refine Z4Q ?_;intro v12 bB tj A;replace tj:Dc bB wr 49 1 v12 [[.float .f64 x]]:=⟨Du tj.1 yE,tj.2⟩;have eW:=eV.below A yE;have aW:=fF.below A yE;have bkv:=gI.trans (A.mono yE);have b4:wr.heap.size+1<=bB:=Zag bbp A.size;have aZ:=Y.below A Y.lt;have aJ:=M.below A (Zab _);have aY:=fN.below A fN.lt;exact Z3v
    refine A1 rfl (fun K J=>?_);go_wp2_with fail
    obtain⟨n2,T⟩:=zL (D.alloc (.cells #[.float .f64 x] 49));rw[T];have a5:Ar n2 D 49 [.float .f64 x]:=by rw[<-T];exact Ar.new D 49 _
    have mm:Below D D n2:=by rw[<-T];exact Bq _ _
    clear T;refine Z4e ?_;intro eU fE zs gR iB;clear J K;refine A1 rfl (fun K J=>?_);refine Jy rfl _ _ 85 rfl 9 16 K6 M7 yH rfl _ rfl (.string Cq) (iB.cell (j:=0) rfl) rfl ?_;intro v5 sz M lk;replace M:Dc sz wr 9 1 v5 [[Cq]]:=⟨Du M.1 yE,M.2⟩;refine Z52 ?_;intro eV fF gI bbp;have Y:=iB.below lk iB.lt;have fN:=a5.below lk a5.lt;refine J _ _ (fun _ _=>⟨eV,fF⟩) (fun _ _ _=>⟨eV,fF⟩) ?_;clear J K;refine Z04 ?_;refine A1 rfl (fun K J=>?_);refine Z4Q ?_;intro v12 bB tj A;replace tj:Dc bB wr 49 1 v12 [[.float .f64 x]]:=⟨Du tj.1 yE,tj.2⟩;have eW:=eV.below A yE;have aW:=fF.below A yE;have bkv:=gI.trans (A.mono yE);have b4:wr.heap.size+1<=bB:=Zag bbp A.size;have aZ:=Y.below A Y.lt;have aY:=fN.below A fN.lt;have aJ:=M.below A (Zab _);exact Z3v
   refine A1 rfl (fun K J=>?_);go_wp2_with fail
   obtain⟨D,O⟩:=zL (wd.alloc (.cells #[.float .f64 x] 49));rw[O];have aX:Ar D wd 49 [.float .f64 x]:=by rw[<-O];exact Ar.new wd 49 _
   have V:Below wd wd D:=by rw[<-O];exact Bq _ _
   clear O;have ba6:=ag.below V yE;have bag:=ah.below V yE;have bW:=aP.trans (V.mono yE);have lC:wr.heap.size+1<=D:=Zag aS V.size;refine J _ _ (fun _ _=>⟨ba6,bag⟩) (fun _ _ _=>⟨ba6,bag⟩) ?_;clear J K;refine A1 rfl (fun K J=>?_);go_wp2_with fail
   obtain⟨n2,T⟩:=zL (D.alloc (.cells #[Cq] 9));rw[T];have iB:Ar n2 D 9 [Cq]:=by rw[<-T];exact Ar.new D 9 _
   have mm:Below D D n2:=by rw[<-T];exact Bq _ _
   clear T;have eU:=ba6.below mm yE;have fE:=bag.below mm yE;have zs:=bW.trans (mm.mono yE);have gR:wr.heap.size+1<=n2:=Zag lC mm.size;have a5:=aX.below mm aX.lt;refine J _ _ (fun _ _=>⟨eU,fE⟩) (fun _ _ _=>⟨eU,fE⟩) ?_;clear J K;refine A1 rfl (fun K J=>?_);refine Jy rfl _ _ 85 rfl 9 16 K6 M7 yH rfl _ rfl (.string Cq) (iB.cell (j:=0) rfl) rfl ?_;intro v5 sz M lk;replace M:Dc sz wr 9 1 v5 [[Cq]]:=⟨Du M.1 yE,M.2⟩;refine Z52 ?_;intro eV fF gI bbp;have fN:=a5.below lk a5.lt;have Y:=iB.below lk iB.lt;refine J _ _ (fun _ _=>⟨eV,fF⟩) (fun _ _ _=>⟨eV,fF⟩) ?_;clear J K;refine Z3Z ?_;refine A1 rfl (fun K J=>?_);refine Z4Q ?_;intro v12 bB tj A;replace tj:Dc bB wr 49 1 v12 [[.float .f64 x]]:=⟨Du tj.1 yE,tj.2⟩;have eW:=eV.below A yE;have aW:=fF.below A yE;have bkv:=gI.trans (A.mono yE);have b4:wr.heap.size+1<=bB:=Zag bbp A.size;have aY:=fN.below A fN.lt;have aZ:=Y.below A Y.lt;have aJ:=M.below A (Zab _);refine J _ _ yF yF ?_;clear J K;obtain⟨e8,dz,rfl,-⟩:=aJ.shape;obtain⟨ot,nh,rfl,-⟩:=tj.shape;have aq:=eW.cell (j:=0) rfl;have f0:=eW.frozen 0;refine A1 rfl (fun K J=>?_);go_wp2_with fail
   refine J _ _ yF yF ?_;clear J K aq f0;have xu:=eW.set 0 (.slice e8 1 dz);have jx:=As bB ad 0 (.slice e8 1 dz);generalize bB.setCell ⟨ad,0,none⟩ (.slice e8 1 dz)=bcj at xu jx|-;have bh:=xu.cell (j:=1) rfl;have f1:=xu.frozen 1;refine Z3Z ?_;refine A1 rfl (fun K J=>?_);go_wp2_with fail
   refine J _ _ yF yF ?_;exact Z4o
  obtain⟨e8,dz,rfl,-⟩:=al.shape;obtain⟨ot,nh,rfl,-⟩:=ae.shape;have H:=bc.grown ak yJ;have aG:=b3.grown ak (by
   cases a4:(Value.slice G Bv F).ownBlock with
   | none=>exact .inl rfl
   | some k=>refine .inr ?_;have:=bp k a4;simp;omega)
  have br:=a7.cell (j:=0) rfl;have bo:=a7.cell (j:=1) rfl;have bm:=a7.cell (j:=2) rfl;have aT:=H.cell (j:=0) rfl;have b6:=H.cell (j:=1) rfl;have b7:=H.cell (j:=2) rfl;have b8:=H.there;have aM:Below w w wr:=bd.grown ak yE (fun r e=>yM);clear d0 d1 d2 d3;go_upto_region 8 with fail
  go_step;refine wpList_load_row rfl 285 _ rfl ad.heap.size 0 rfl [.slice e8 1 dz,.slice ot 1 nh,.slice G Bv F] a7.range yG yG ?_;refine wpList_store_row rfl 285 _ _ rfl w.heap.size 0 [.slice e8 1 dz,.slice ot 1 nh,.slice G Bv F] rfl rfl b8 yG yL ?_;have a6:=H.fill (vs:=[.slice e8 1 dz,.slice ot 1 nh,.slice G Bv F]) rfl;have aj:=Ao wr w [.slice e8 1 dz,.slice ot 1 nh,.slice G Bv F] 0;have aA:∀ {e:TypeId} {v:Value} {a3:List (List Value)},Dc wr (w+1) e 1 v a3->v.ownBlock=none\/v.ownBlock≠some w.heap.size:=fun {e v a3} h=>by
   cases a4:v.ownBlock with
   | none=>exact .inl rfl
   | some k=>refine .inr ?_;have:=(h.lt k a4).1;simp;omega
  have aH:=al.grown aj (aA al);have aE:=ae.grown aj (aA ae);have aF:=aG.grown aj (aA aG);have bg:=Cn aM w 0 [.slice e8 1 dz,.slice ot 1 nh,.slice G Bv F] aM.size (Zab _);generalize wr.setCells w 0 [.slice e8 1 dz,.slice ot 1 nh,.slice G Bv F]=wf at a6 aj bg aH aE aF|-;clear br bo bm aT b6 b7 b8 a7 H ak al ae aG;have aT:=a6.cell (j:=0) rfl;have b6:=a6.cell (j:=1) rfl;have b7:=a6.cell (j:=2) rfl;simp only[wpList];go_wp2_with fail
  exact Zho (v:=.agg #[.slice e8 1 dz,.slice ot 1 nh,.slice G Bv F]) (Aq rfl _ _ w 0 [.slice e8 1 dz,.slice ot 1 nh,.slice G Bv F] rfl a6.range yG yG) rfl ⟨_,_,_,rfl,⟨Du aH.1 yE,aH.2⟩,⟨Du aE.1 yE,aE.2⟩,⟨Du aF.1 yE,aF.2⟩,bg⟩
end
section
open Tryz Go.RowKit Go.Shelf
theorem Zm (w:zN):Calls prog 271 #[zD] w fun e w'=>e=.returned (.bool false)/\w'=w:=by
 go_enter func271,ntmps271
 exact Z0G
theorem Aiw (w:zN):Calls prog 272 #[zD] w fun e w'=>e=.returned (.int .u8 3)/\w'=w:=by
 go_enter func272,ntmps272
 exact Z0G
theorem Afi (w:zN):Calls prog 248 #[zD] w fun e w'=>e=.returned (.string ⟨#[48]⟩)/\w'=w:=by
 go_enter func248,ntmps248
 go_wp2_with fail
 refine(Zm w).mono ?_;rintro e w' ⟨rfl,hw⟩;subst w';go_wp2_with fail
 refine(Aiw w).mono ?_;rintro e w' ⟨rfl,hw⟩;subst w';exact Z0G
structure S4 (w:zN) (m:Nat) (x:Nat) (mj js mq:Value):Prop where
 names:Dc w 0 9 1 mj [[Cq]]
 Aab:Dc w 0 49 1 js [[.float .f64 x]]
 low:∀k,mj.ownBlock=some k\/js.ownBlock=some k->k<m
theorem S4.below {w w':zN} {m x:Nat} {J H M:Value} (h:S4 w m x J H M) (g:Below m w w'):S4 w' m x J H M:=by
 obtain⟨h1,h2,h3⟩:=h;have F:∀ {e:TypeId} {v:Value} {A:List (List Value)},Dc w 0 e 1 v A->(∀k,v.ownBlock=some k->k<m)->Dc w' 0 e 1 v A:=fun {e v A} D O=>by
  refine⟨⟨D.1.1,?_⟩,D.2⟩;rcases D.1.2 with h | ⟨b,T,cur,G,h4,h5,h6⟩
  ·exact .inl h
  exact .inr ⟨b,T,cur,G,h4,(g.block b (O b (by rw[G];rfl))).trans h5,h6⟩
 exact⟨F h1 (fun k e=>h3 k (.inl e)),F h2 (fun k e=>h3 k (.inr e)),h3⟩
theorem Ad9 (w:zN) (y:Nat) (s:zS) (U:Int) (M:zO) (T J:Nat) (D A F:Value) (H:∃a c,D=.slice a 1 c) (O:∃a c,A=.slice a 1 c) (G:∃a n c,F=.slice a n c):
  Calls prog 223 #[.agg #[.int .u8 8,.float .f64 y,s,U,.slice M T J],.agg #[D,A,F]] w fun e w'=>e=.returned (.tuple #[.float .f64 y,zE])/\Below w w w':=by
 obtain⟨W,V,rfl⟩:=H
 obtain⟨a1,a0,rfl⟩:=O
 obtain⟨a3,Y,a2,rfl⟩:=G
 go_enter func223,ntmps223
 go_wp2_with fail
 go_ret2
 exact⟨rfl,(Bq w _).alloc yF _⟩
theorem T5 (w:zN) (m x:Nat) (a7:x<2^64/\D1 x=true) (y:Nat) (T:Int) (F:zO) (O D:Nat) (a0 Y M:Value) (hm:m<=w) (G:S4 w m x a0 Y M) (a8:∃a n c,M=.slice a n c):
  Calls prog 223 #[.agg #[.int .u8 9,.float .f64 y,Cq,T,.slice F O D],.agg #[a0,Y,M]] w fun e w'=>e=.returned (.tuple #[.float .f64 (B7 x),zE])/\Below w w w':=by
 obtain⟨J,H,rfl,-⟩:=G.names.shape
 obtain⟨a2,a1,rfl,-⟩:=G.Aab.shape
 obtain⟨a4,W,a3,rfl⟩:=a8
 have ac:Below w w ((w.alloc (.cells #[.int .u8 9,.float .f64 y,Cq,T,.slice F O D] 118)).alloc (.cells #[.slice J 1 H,.slice a2 1 a1,.slice a4 W a3] 285)):=(Bq w _).alloc yF _
 obtain⟨A,ad,V,a5,U,ai⟩:=Fk w [.int .u8 9,.float .f64 y,Cq,T,.slice F O D] [.slice J 1 H,.slice a2 1 a1,.slice a4 W a3] 118 285
 have a6:=G.below (U.mono hm)
 obtain h0 | ⟨fb,ah,e,-,af,a9⟩:=a6.Aab.at_
 ·cases h0
 cases e
 have f0:=a9 0 yF 0 _ rfl
 simp only[Zgl,Zaf]at f0
 have hI:=Zaa (T4 J H [Cq] Cq A A yF (a6.names.Ve rfl))
 have aa:=Zaa fun(X:zN)=>Pd x X a7.1
 have ae:=V.cell (j:=0) rfl
 have aj:=V.cell (j:=2) rfl
 have ag:=a5.cell (j:=0) rfl
 have ak:=a5.cell (j:=1) rfl
 have ab:E8 (Il [Cq] Cq) 1=0:=F0 (j:=0) yE (fun t al=>yE) (by simp[Il])
 go_enter func223,ntmps223
 go_upto_region 5 with fail
 go_wp2_with fail
 refine hI.out.mono ?_
 rintro e w' ⟨rfl,hw⟩
 subst w'
 simp only[Zao,Zav,Zac,ab]
 go_wp2_with fail
 refine(aa.out A).mono ?_
 rintro e w' ⟨rfl,hw⟩
 subst w'
 go_wp2_with fail
 go_ret2
 exact⟨rfl,U⟩
theorem Aeb (w:zN) (m x:Nat) (aq:x<2^64/\D1 x=true) (ax:B7 x<2^64) (M ai F:Nat) (aF:F<2^64) (s0 s2:zS) (H ac ae:Int) (ak a2:zO) (l1 l2 ag ad b o c:Nat) (aI:2<=c) (U:b<m)
  (aA:w.rangeAt b o [.int .u8 9,.float .f64 ai,Cq,ac,.slice ak l1 ag]) (aC:w.rangeAt b (o+5) [.int .u8 8,.float .f64 F,s2,ae,.slice a2 l2 ad])
  (a5 a4 W:Value) (hm:m<=w) (J:S4 w m x a5 a4 W) (aa:∃a n c,W=.slice a n c):
  Calls prog 223 #[.agg #[.int .u8 2,.float .f64 M,s0,H,.slice (some ⟨b,o,none⟩) 2 c],.agg #[a5,a4,W]] w fun e w'=>e=.returned (.tuple #[.float .f64 (Lq .add (B7 x) F),zE])/\Below w w w':=by
 have aD:=Zaa fun(X:zN) (az:Below m w X)=>T5 X m x aq ai ac ak l1 ag a5 a4 W (Zag hm az.size) (J.below az) aa
 have aB:=Zaa fun(X:zN)=>Ad9 X F s2 ae a2 l2 ad a5 a4 W (by obtain⟨a,c,h,-⟩:=J.names.shape;exact⟨a,c,h⟩) (by obtain⟨a,c,h,-⟩:=J.Aab.shape;exact⟨a,c,h⟩) aa
 obtain⟨a1,a0,rfl,-⟩:=J.names.shape
 obtain⟨a7,a6,rfl,-⟩:=J.Aab.shape
 obtain⟨a9,a3,a8,rfl⟩:=aa
 have aG:=Zaa fun(X:zN)=>Aod (B7 x) F X ax aF
 obtain⟨ar,au,ah,aH,av,an,aL⟩:=Jd w [.int .u8 2,.float .f64 M,s0,H,.slice (some ⟨b,o,none⟩) 2 c] [.slice a1 1 a0,.slice a7 1 a6,.slice a9 a3 a8] [zD,zD] 118 285 351
 have ao:=ah.cell (j:=0) rfl
 have aE:=ah.cell (j:=4) rfl
 go_enter func223,ntmps223
 go_upto_region 14 with fail
 rw[show w.heap.size+1+1=w+2 from rfl]
 clear ao au
 have aK:Below m w ar:=an.mono hm
 go_wp2_with fail
 clear aE
 go_loopw [59] (fun V wr=>(V=.int .i64 0/\Ar wr w 118 [.int .u8 2,.float .f64 M,s0,H,.slice (some ⟨b,o,none⟩) 2 c]/\Ar wr (w+1) 285 [.slice a1 1 a0,.slice a7 1 a6,.slice a9 a3 a8]/\Ar wr (w+2) 351 [zD,zD]/\Below w w wr)\/(V=.int .i64 1/\Ar wr w 118 [.int .u8 2,.float .f64 M,s0,H,.slice (some ⟨b,o,none⟩) 2 c]/\Ar wr (w+1) 285 [.slice a1 1 a0,.slice a7 1 a6,.slice a9 a3 a8]/\Ar wr (w+2) 351 [.float .f64 (B7 x),zD]/\Below w w wr)\/(V=.int .i64 2/\Ar wr w 118 [.int .u8 2,.float .f64 M,s0,H,.slice (some ⟨b,o,none⟩) 2 c]/\Ar wr (w+1) 285 [.slice a1 1 a0,.slice a7 1 a6,.slice a9 a3 a8]/\Ar wr (w+2) 351 [.float .f64 (B7 x),.float .f64 F]/\Below w w wr)) (fun V _=>2 - (intOf V).toNat)
 case atStart=>exact .inl ⟨rfl,ah,aH,av,an⟩
 case round=>
  rcases hrel with⟨rfl,az,gy,sn,i5⟩ | ⟨rfl,az,gy,sn,i5⟩ | ⟨rfl,az,gy,sn,i5⟩
  ·skip
   have D:=Aa aA (i5.mono hm) U;have d0:=D 0 _ rfl;have d1:=D 1 _ rfl;have d2:=D 2 _ rfl;have d3:=D 3 _ rfl;have d4:=D 4 _ rfl;simp only[Zaf,Zfx,Nat.reduceAdd]at d0 d1 d2 d3 d4;obtain⟨ab,ay,e7,af,al⟩:=Bx wr [.int .u8 9,.float .f64 ai,Cq,ac,.slice ak l1 ag] 118;refine Z1u ?_;intro eo px bR bzq bzr bzv bc q1 eh hn i3 i9;clear al;go_upto_region 18 with(go_at_call 223;refine(aD.out ab (i9.mono hm)).mono ?_;rintro e Y ⟨rfl,A⟩)
   clear d0 d1 d2 d3 d4 bzq bzr bzv bc q1 eh hn i3;have am:=eo.below A eo.lt;have aj:=px.below A px.lt;have G:=bR.below A bR.lt;have T:=i9.trans (A.mono i9.size);have z0:=G.cell (j:=0) rfl;have aw:=G.frozen 0;go_wp2;have O:=As Y (w+2) 0 (.float .f64 (B7 x));exact⟨.inr (.inl ⟨yK,am.grown O yF,aj.grown O yF,G.set 0 (.float .f64 (B7 x)),Ek T _ _ _ T.size yE⟩),wJ⟩
  ·skip
   have D:=Aa aC (i5.mono hm) U;have d0:=D 0 _ rfl;have d1:=D 1 _ rfl;have d2:=D 2 _ rfl;have d3:=D 3 _ rfl;have d4:=D 4 _ rfl;simp only[Zaf,Zfx,Nat.reduceAdd]at d0 d1 d2 d3 d4;obtain⟨ab,ay,e7,af,al⟩:=Bx wr [.int .u8 8,.float .f64 F,s2,ae,.slice a2 l2 ad] 118;refine Z1u ?_;intro eo px bR bzq bzr bzv bc q1 eh hn i3 i9;clear al;go_upto_region 18 with(go_at_call 223;refine(aB.out ab).mono ?_;rintro e Y ⟨rfl,A⟩)
   clear d0 d1 d2 d3 d4 bzq bzr bzv bc q1 eh hn i3;have am:=eo.below A eo.lt;have aj:=px.below A px.lt;have G:=bR.below A bR.lt;have T:=i9.trans (A.mono i9.size);have z0:=G.cell (j:=1) rfl;have aw:=G.frozen 1;go_wp2;have O:=As Y (w+2) 1 (.float .f64 F);exact⟨.inr (.inr ⟨yK,am.grown O yF,aj.grown O yF,G.set 1 (.float .f64 F),Ek T _ _ _ T.size yE⟩),wJ⟩
  have ao:=az.cell (j:=0) rfl;have z0:=sn.cell (j:=0) rfl;have aJ:=sn.cell (j:=1) rfl;have ap:=aG.out wr;go_wp2_with fail
  refine ap.mono ?_;rintro e Y ⟨rfl,A⟩;go_wp2_with fail
  go_ret2;exact⟨rfl,i5.trans (A.mono i5.size)⟩
end
section
open Tryz Go.RowKit Go.Shelf
theorem Rl {fn:Func} {p q:Tmp} {ty t2:TypeId} (h:fn.results=#[.cell p ty,.cell q t2]) (tmps:Array Value) (w:zN) (b o:Nat) (cs:zP) (b2:Nat) (v:Value) (hp:tmps.getD p undef=.pointer (some ⟨b,o,none⟩)) (A:tmps.getD q undef=.pointer (some ⟨b2,0,none⟩)) (G:w.rangeAt b o cs) (J:w.cell? ⟨b2,0,none⟩=some v)
  (D:(prog.underlying ty).map (·.isRow)=some true) (F:(prog.info? ty).map (·.size)=some cs.length) (H:∀w,(isAgg t2).run prog w=.ok false w):
  (results fn tmps).run prog w=.ok (.tuple #[.agg cs.toArray,v]) w:=by
 obtain⟨d,hu,M⟩:∃d,prog.underlying ty=some d/\d.isRow=true:=by
  cases A:prog.underlying ty with
  | none=>rw[A]at D;cases D
  | some d=>rw[A]at D;exact⟨d,rfl,by simpa using D⟩
 rw[Zbv]at hp A
 have h2:(loadVar t2 ⟨b2,0,none⟩).run prog w=.ok v w:=by simp[loadVar,Zgv,Result.andThen,H,J]
 simp only[results,h]
 simp[Zgv,Result.andThen,hp,A,asAddr,Zif w b o ty cs d G hu M F,h2]
def Oj (left used:Int):List Value:=[.int .i64 64,.int .i64 left,.int .i64 used,.bool true]
theorem Aip (w:zN):
  Calls prog 32 #[.int .i64 64] w fun e w'=>e=.returned (.tuple #[zK w,zE])/\w'=w.alloc (.cells (Oj 64 0).toArray 152):=by
 go_enter func32,ntmps32
 go_wp2_with fail
 go_ret2
 exact⟨rfl,rfl⟩
theorem Abb (w:zN) (mt:Nat) (l u:Int) (h:Ar w mt 152 (Oj l u)):
  Calls prog 93 #[zK mt] w fun e w'=>e=.returned (.bool true)/\w'=w:=by
 have A:=h.cell (j:=3) rfl
 go_enter func93,ntmps93
 exact Z0G
theorem Agt (w:zN) (mt:Nat) (l u:Int) (h:Ar w mt 152 (Oj l u)):
  Calls prog 62 #[zK mt] w fun e w'=>e=.returned (.int .i64 0)/\w'=w.setCell ⟨mt,1,none⟩ (.int .i64 64):=by
 have A:=h.cell (j:=0) rfl
 have D:=h.cell (j:=1) rfl
 have f1:=h.frozen 1
 have hI:=Zaa (Abb w mt l u h)
 go_enter func62,ntmps62
 exact Z3p
theorem Aio (w:zN) (mt:Nat) (l u:Int) (h:Ar w mt 152 (Oj l u)) (D:1<=l) (J:l<=64) (hu:0<=u) (A:u<=1000000):
  Calls prog 102 #[zK mt,zF] w fun e w'=>e=.returned (.int .i64 0)/\w'=(w.setCell ⟨mt,1,none⟩ (.int .i64 (l - 1))).setCell ⟨mt,2,none⟩ (.int .i64 (u+1)):=by
 have H:=h.cell (j:=1) rfl
 have f1:=h.frozen 1
 have h2:=h.set 1 (.int .i64 (l - 1))
 have F:=h2.cell (j:=2) rfl
 have f2:=h2.frozen 2
 have hI:=Zaa (Abb w mt l u h)
 have G:¬l<1:=yE
 go_enter func102,ntmps102
 exact Z3p
theorem Aen (p q:Addr) (w:zN):
  CallsD prog 126 #[.pointer (some p),.pointer (some q)] .returning w fun e A w'=>e=.returned (.tuple #[])/\A=.returning/\w'=w:=by
 refine callsD_of_wpS func126 rfl fun D cs hu=>?_
 apply wpS_seq
 apply wpS_region
 simp[wpOpsS,go_sem,recoverD,hu,ntmps126,Exit.thenS]
 apply wpS_seq
 apply wpS_seq
 apply wpS_region
 simp[wpOpsS,go_sem,Exit.thenS]
 refine wpS_cond (t:=true) (by simp[Act.eval,Array.replicate]) ?_
 simp only[Zia]
 refine wpS_of_wp (wp_ret ?_)
 cases D
 simp_all[bodyPostS,results,results126,Exit.thenS]
theorem Uh (w:zN) (f:Fn) (a b:Array Value):(binOp .eql 1 (.func f a b) .nilFunc).run prog w=.ok (.bool false) w:=by
 kernel_rfl
theorem Ajr (gf:Nat) (fst lb:Array Value) (args:Array Value) (a5:∀w,(callFunc gf args).run prog w=.ok (.enter gf args) w) (w:zN) (D:World->Prop) (U:fst++lb=args)
  (G:∀X,Below w w X->X.heap.size=w.heap.size+2->Calls prog gf args X fun e F=>e=.returned (.tuple #[])/\A8 (fun k=>k=w.heap.size\/k=w.heap.size+1) X F/\D F):
  Calls prog 94 #[.func (.func gf) fst lb] w fun e w'=>e=.returned (.tuple #[.agg #[zJ,zE],zA])/\D w':=by
 have a4:∀(fn:Fn) (first cap:Array Value) (w:zN),(Instr.makeFunc fn first cap).run prog w=.ok (.func fn first cap) w:=fun _ _ _ _=>rfl
 obtain⟨H,a2,T,Y,J,O⟩:=Fk w [zJ,zE] [zA] 155 4
 have c3:=Zaa (G H J O)
 clear G
 subst U
 go_enter_defers func94,ntmps94
 go_wp2_with fail
 refine Z0P ?_
 rintro e a1 ⟨rfl,A,M⟩
 have V:=A.box T (.inl rfl)
 have W:=A.box Y (.inr rfl)
 go_wp2_with fail
 refine leaves_cons (f:=126) (args:=#[zK w,zK (w.heap.size+1)]) yF (by simp[go_sem]) ?_
 refine(Aen ⟨w,0,none⟩ ⟨w.heap.size+1,0,none⟩ _).mono ?_
 rintro e a3 a0 ⟨rfl,rfl,hw⟩
 subst a0
 simp only[Leaves,settle]
 refine⟨_,Rl rfl _ _ w 0 [zJ,zE] (w.heap.size+1) (.bool false) rfl rfl V.range (W.cell (j:=0) rfl) yG yG Nz,rfl,M⟩
theorem Amk (gf:Nat) (fst lb:Array Value) (args:Array Value) (ad:∀w,(callFunc gf args).run prog w=.ok (.enter gf args) w) (w:zN) (U:World->Prop) (a9:fst++lb=args)
  (a5:∀X,Below w w X->X.heap.size=w.heap.size+3->Calls prog gf args X fun e A=>e=.returned (.tuple #[])/\A8 (fun k=>w.heap.size<=k/\k<w.heap.size+3) X A/\U A):
  Calls prog 63 #[.func (.func gf) fst lb] w fun e w'=>e=.returned (.tuple #[.agg #[zJ,zE],zA,zE])/\∃A,U A/\w.heap.size<=A.heap.size/\A8 (fun k=>k≠w.heap.size/\k<A.heap.size) A w':=by
 have al:=Uh
 obtain⟨a0,af,a8,a1,aj⟩:=Bx w [zJ,zE] 155
 have c3:=Zaa (Ajr gf fst lb args ad a0 (fun A=>U A/\a0.heap.size<=A.heap.size/\Ar A w 155 [zJ,zE]) a9 (fun X T ak=>(a5 X (a1.trans (T.mono a1.size)) yE).mono (by
  rintro e A ⟨he,F,V⟩;exact⟨he,F.Gz (fun k F=>yE),V,Zag T.size F.size,F.box (a8.below T yE) yE⟩)))
 clear a5
 go_enter func63,ntmps63
 go_wp2_with fail
 refine Z0P ?_
 rintro e D ⟨rfl,V,ah,W⟩
 have ae:=W.lt
 obtain⟨O,ai,J,H,aa⟩:=Bx D [zJ,zE] 155
 have ac:=W.below H W.lt
 have z0:=J.cell (j:=0) rfl
 have a7:=J.cell (j:=1) rfl
 have g0:=J.frozen 0
 have g1:=(J.set 0 (.int .u8 0)).frozen 1
 have g2:=(J.set 0 (.int .u8 0)).cell (j:=1) rfl
 have a3:=(J.set 0 (.int .u8 0)).set 1 (.int .i64 0)
 have G:=Bn (As O D 0 (.int .u8 0)) (As (O.setCell ⟨D,0,none⟩ (.int .u8 0)) D 1 (.int .i64 0))
 clear aa
 go_upto_region 4 with fail
 have Y:=ac.grown G yJ
 generalize(O.setCell ⟨D,0,none⟩ (.int .u8 0)).setCell ⟨D,1,none⟩ (.int .i64 0)=a2 at a3 G Y|-
 clear z0 a7 g0 g1 g2
 go_step
 refine wpList_load_row rfl 155 _ rfl D.heap.size 0 rfl [zJ,zE] a3.range yG yG ?_
 have ab:=Y.there
 go_wp2_with (refine wpList_store_row rfl 155 _ _ rfl w.heap.size 0 [zJ,zE] rfl rfl ab yG yL ?_)
 have a6:=Y.fill (vs:=[zJ,zE]) rfl
 have M:=Ao a2 w [zJ,zE] 0
 have a4:D.heap.size<=O:=H.size
 generalize a2.setCells w 0 [.int .u8 0,.int .i64 0]=ag at a6 M|-
 exact Zho (Ko rfl _ _ w 0 [zJ,zE] (.bool false) (.int .i64 0) rfl rfl rfl a6.range yG yG) rfl ⟨rfl,D,V,yE,
  M.os.trans (G.os.trans H.os),M.tape.trans (G.tape.trans H.tape),M.output.trans (G.output.trans H.output),Zag H.size (Zag G.size M.size),fun k F=>
   (M.block k (Zal F.2 (Zag a4 G.size)) yJ).trans ((G.block k (Zal F.2 a4) yJ).trans (H.block k F.2))⟩
end
end Go.Proofs.YtafmoofknjncpaaGreatDoor
