/- A part of the proof that ModelWrong holds: its theorems stand as they are typed. -/
import Derived.Test.YtafmoofknjncpaaGreatDoorG
set_option linter.all false
set_option maxRecDepth 100000
set_option maxHeartbeats 8000000
namespace Go.Proofs.YtafmoofknjncpaaGreatDoor
section
open Tryz Go.RowKit Go.Shelf
def C5 {α:Type} (I:World->(Nat->Prop)->α->List Value->Prop) (A:zT) (lo:Nat) (w:zN) (S:zT) (x:α) (cs:zP):Prop:=I w (fun b=>S b/\(A b\/lo<=b)) x cs
theorem C5.Ab {α:Type} {I:World->(Nat->Prop)->α->List Value->Prop} (hI:Cp I) (F:zT) (lo:Nat):Cp (C5 I F lo):=fun w w' S S' x c A hm h=>
 hI w w' _ _ x c (fun b o D U=>A b o D U.1) (fun b U=>⟨hm b U.1,U.2⟩) h
theorem Au.Am8 {α:Type} {I:World->(Nat->Prop)->α->List Value->Prop} (hI:Cp I) {w:zN} {A:zT} {lo K:Nat} {e:TypeId} {v:Value} {l:List α} (h:Au (C5 I A lo) lo e K w l v):Al I K w (fun b=>(A b\/lo<=b)/\b<w) l v:=by
 obtain⟨G,h1,h2,h3⟩:=h;obtain⟨a,c,rfl,O⟩:=h1.shape;refine⟨a,c,by rw[h2],yE,?_⟩;rcases h1.at_ with h0 | ⟨g,T,H,M,J,D⟩
 ·left;rw[h0]at h2;exact Zeo.1 h2.symm
 cases H;exact .inr ⟨g,0,rfl,⟨.inr M,J⟩,fun i F=>⟨G[i]'yE,D i yE,hI.wide (h3 i F yE) fun b U=>⟨U.2,U.1.1⟩⟩⟩
theorem Fa {α:Type} {p:α->Prop} {l:List α} {x:α} (h:∀y∈l,p y) (A:p x):∀y∈l++[x],p y:=fun y hy=>(Zew.1 hy).elim (h y) (fun hy=>by simp at hy;rw[hy];exact A)
def Fx:List ByteArray:=[⟨#[97]⟩,⟨#[45]⟩,⟨#[97,98,32]⟩,⟨#[0,255]⟩,⟨#[49,50]⟩]
def Dq:List ByteArray:=[⟨#[115]⟩,⟨#[116]⟩]
def Re (Cj:Int) (e:Ex) (p:Dl):Prop:=
 (p.kind=1/\p.text∈Fx/\p.group=0/\p.Bw=Dd)\/(p.kind=2/\(p.text∈Dq\/p.text∈Cv)/\p.group=0/\p.Bw=Dd)\/
 (p.kind=3/\p.text=Fw/\0<=p.group/\p.group<=9/\p.group<=Cj/\p.Bw=Dd)\/(p.kind=4/\p.text=Fw/\p.group=0/\p.Bw=e)
def Qg (l:List Dl):Prop:=∀j p q,l[j]? =some q->l[j+1]? =some p->¬(p.kind=1/\q.kind=1)
theorem Qg.snoc {l:List Dl} {p:Dl} (h:Qg l) (hp:p.kind=1->∀q,l[l.length - 1]? =some q->q.kind≠1):Qg (l++[p]):=by
 intro j x y hy A;by_cases F:j+1<l
 ·rw[Zbp yE]at hy A
  exact h j x y hy A
 rw[Zee yE]at A;have D:j+1 - l=0:=by
  rcases Zfz (j+1 - l)with e | e
  ·exact e
  rw[List.getElem?_eq_none yJ]at A;cases A
 rw[D]at A;simp only[Zad,Zbb]at A;subst A;rw[Zbp yE]at hy;rintro⟨h1,h2⟩;exact hp h1 y (by rw[show l - 1=j from yE];exact hy) h2
theorem Rt (l:zQ) (L:Nat) (a2:l=L) (a:zO) (cap N:Nat) (t:Ex) (es:zP) (Cj:Int) (hm: -1<=Cj) (aR:Cj<=100) (w:zN) (n:Nat) (ln:zT) (rl:∀b,ln b->b<w.heap.size) (aD:n<=w) (aH:min (N:Int) 5=(L:Int)) (aG:L<=cap) (aN:L<=5) (a3:Cz w ln t es) (ai:Bs w n 1 a (l.map fun x=>[Value.int .u8 x.toNat])):
  Calls prog 81 #[.slice a N cap,.agg es.toArray,Cj] w fun az w'=>∃Ay v,az=.returned v/\Al Bz 8 w' (fun b=>(ln b\/w.heap.size<=b)/\b<w'.heap.size) Ay v/\(∀p∈Ay,Re Cj t p)/\Qg Ay/\Ay.length<=5/\Below w w w':=by
 have aI:max (L:Int) 0=L:=yE
 obtain⟨an,A⟩:=t
 obtain⟨T,O,rfl,aO,-⟩:=a3.open
 obtain⟨J,F,H,D⟩:=an
 simp only[Df.cells,Zas,Zau]at a3|-
 have a1:=Af (w:=w) (.cells #[J,.float .f64 F,H,D,.slice T A O] 118)
 have aa:=Ae w [J,.float .f64 F,H,D,.slice T A O] 118
 have a5:(w.alloc (.cells #[J,.float .f64 F,H,D,.slice T A O] 118)).heap.size=w.heap.size+1:=yF
 have a7:=Zaa aa
 have k1:=Zaa a2
 clear aa
 go_enter func81,ntmps81
 go_wp2_with fail
 obtain⟨ar,ab⟩:=zL (w.alloc (.cells #[J,.float .f64 F,H,D,.slice T A O] 118))
 rw[ab]at a1 a5 a7|-
 clear ab
 have x2:=Zaa a5
 clear a5
 go_loopw [7,18] (fun u v wr=>∃(i:Nat) (bw:List Dl),i<=L/\v=.int .i64 i/\bw<=i/\Au (C5 Bz ln (w+1)) (w+1) 124 8 wr bw u/\(∀p∈bw,Re Cj (.node ⟨J,F,H,D⟩ A) p)/\Qg bw/\Below (w+1) ar wr) (fun _ v _=>L - (intOf v).toNat)
 case atStart=>exact⟨0,[],Zap _,rfl,Zab _,Au.nil _ _ _ _ _,yF,fun j p q h=>yX,Zai _ _⟩
 case round=>
  obtain⟨i,bw,aC,rfl,ad,W,a4,hA,U⟩:=hrel;obtain⟨e6,gc,aj,-⟩:=W.shape;obtain⟨k,a0⟩:∃k,k=bw.length:=⟨_,rfl⟩;rw[<-a0]at aj;subst aj;by_cases aE:i<L
  ·have aP:(i:Int) <L:=by omega
   rcases ai with e | ⟨b,o,rfl,aM,a8⟩
   ·rw[Zbr]at e;rw[e]at a2;simp at a2;omega
   have aB:i<l:=wY;have d0:=Aa (a8 i (by simpa using aB)).1 (a1.trans (U.mono wZ)) yE 0 _ (by rw[Zbh];rfl);simp only[Zaf,Zba]at d0;have ah:=Zhb l[i];generalize l[i]=y at d0 ah;generalize y.toNat=Y at d0 ah;have hw:=U.size;have a6:=a1.trans (U.mono wZ);have sh:=Zaa a4;have vz:=Zaa hA;have ff:=Zaa W;have c2:=Zaa U;have aJ:=x2.out;have ae:bw.length+1<=maxLen/\(bw.length+1)*96<=140737488355328:=⟨yP,yE⟩;have im:=Zaa ae;have aQ:k<=5:=yE;have aF:=Zaa ad;have bH:=Zaa a0;have ac:∀b,some b≠(Value.slice e6 k gc).ownBlock\/w.heap.size+1<=b:=fun b=>by
    by_cases e:some b=(Value.slice e6 k gc).ownBlock
    ·exact .inr (W.lt b e.symm).1
    exact .inl e
   have am:=Zaa ac;clear a4 hA W U ae ad ac a8 a2 a0;rcases(show(Y:Int)%8=0\/(Y:Int)%8=1\/(Y:Int)%8=2\/(Y:Int)%8=3\/(Y:Int)%8=4\/(Y:Int)%8=5\/(Y:Int)%8=6\/(Y:Int)%8=7 from yE)with h8 | h8 | h8 | h8 | h8 | h8 | h8 | h8
   ·skip
    exact Z07
   ·skip
    exact Z07
   ·skip
    exact Z0g
   ·skip
    exact Z0g
   ·skip
    obtain⟨q,b5,po⟩:∃q:Nat,(Y:Int) / 8%4=(q:Int)/\q<4:=⟨Y / 8%4,yE,yE⟩;have T0:(q:Int) <4:=yE;obtain⟨s,b0⟩:∃s,Cv[q]? =some s:=⟨_,Zam (show q<Cv from po)⟩;have j7:s∈Cv:=Zax b0;have L5:=Ae wr (Cv.map Value.string) 9 q (.string s) xF;simp only[Cv,Zbi,Zeu,Zac]at L5;clear b0;have bt:Below wr wr (wr.alloc (.cells (List.toArray [Value.string nX,nY,nZ,nL]) 9)):=Af _;have hI:C5 Bz ln (w+1) (wr.alloc (.cells (List.toArray [Value.string nX,nY,nZ,nL]) 9)) (fun b=>b< (wr.alloc (.cells (List.toArray [Value.string nX,nY,nZ,nL]) 9)).heap.size/\some b≠(Value.slice e6 k gc).ownBlock) ⟨2,s,0,Dd⟩ [.int .u8 2,.string s,zE,zJ,zD,zC,zE,zH]:=⟨_,rfl,Tree.A6.shut (E:=Df.cells) (l:=⟨0,0,⟨#[]⟩,0⟩) (Zap _) (.inl rfl)⟩;refine Z2K ?_;intro ht dv hs bp;clear hI dv;go_wp2_with (first | (go_at_call 20;refine(Pr _).mono ?_;rintro e w' ⟨rfl,rfl⟩) | (at_builtin;go_loud (refine Am (C5.Ab Bz.Ab _ _) rfl _ _ 115 rfl (w.heap.size+1) 124 8 96 Ff Fz yH bw _ rfl hs.out _ _ rfl yF ht.out rfl yL im.out.1 im.out.2 yE ?_;intro ak ax ag cj jt al i2 ek _)))
    go_roundw
    case rel=>exact⟨i+1,bw++[⟨2,s,0,Dd⟩],yE,yK,wC,cj,Fa sh.out (.inr (.inl ⟨rfl,.inr j7,rfl,rfl⟩)),vz.out.snoc (fun h=>yX),c2.out.trans ((bt.mono yE).trans (al.mono yE))⟩
    case measure=>simp[intOf];omega
   ·skip
    exact Z0f
   ·skip
    exact Z0f
   skip
   have V:=Aa a7.out c2.out yE;have ao:=V 0 _ rfl;have au:=V 1 _ rfl;have av:=V 2 _ rfl;have aw:=V 3 _ rfl;have aA:=V 4 _ rfl;simp only[Zac]at ao au av aw aA;have a9:Cz wr (fun b=>(b<wr.heap.size/\some b≠(Value.slice e6 k gc).ownBlock)/\(ln b\/w.heap.size+1<=b)) (.node ⟨J,F,H,D⟩ A) [J,.float .f64 F,H,D,.slice T A O]:=
    Tree.A6.mono (Tree.A6.below a3 a6 rl) fun b U=>⟨⟨by have:=rl b U;have:=a6.size;omega,(am.out b).resolve_right xN⟩,.inl U⟩
   have ap:=Zaa a9;have bt:Below wr wr wr:=Zai _ _;clear V a9;have hI:C5 Bz ln (w+1) (wr) (fun b=>b< (wr).heap.size/\some b≠(Value.slice e6 k gc).ownBlock) ⟨4,⟨#[]⟩,0,(.node ⟨J,F,H,D⟩ A)⟩ [.int .u8 4,zC,zE,J,.float .f64 F,H,D,.slice T A O]:=⟨_,rfl,ap.out⟩;refine Z2K ?_;intro ht dv hs bp;clear hI dv;go_wp2_with (at_builtin;go_loud (refine Am (C5.Ab Bz.Ab _ _) rfl _ _ 115 rfl (w.heap.size+1) 124 8 96 Ff Fz yH bw _ rfl hs.out _ _ rfl yF ht.out rfl yL im.out.1 im.out.2 yE ?_;intro ak ax ag cj jt al i2 ek _))
   go_roundw
   case rel=>exact⟨i+1,bw++[⟨4,⟨#[]⟩,0,(.node ⟨J,F,H,D⟩ A)⟩],yE,yK,wC,cj,Fa sh.out (.inr (.inr (.inr ⟨rfl,rfl,rfl,rfl⟩))),vz.out.snoc (fun h=>yX),c2.out.trans ((bt.mono yE).trans (al.mono yE))⟩
   case measure=>simp[intOf];omega
  subst a0;have aq:L=i:=yE;subst aq;have aK:¬((L:Int) <L):=yE;go_wp2_with fail
  go_ret;have aL:=x2.out;have ay:=a1.trans (U.mono yE);exact⟨bw,_,rfl,Al.Ab Bz.Ab |>.wide (W.Am8 Bz.Ab) fun b af=>⟨af.1.imp id yE,af.2⟩,a4,hA,yE,ay⟩
end
section
open Tryz Go.RowKit
structure Gy (p:List Ex) (i:Nat):Prop where
 made:∀x∈p,D0 9 x
 size:Tree.Bf p<=i
theorem Gy.nil:Gy [] 0:=⟨yF,by simp[Tree.Bf]⟩
theorem Gy.skip {p:List Ex} {i:Nat} (h:Gy p i):Gy p (i+1):=⟨h.made,by have:=h.size;omega⟩
theorem Gy.leaf {p:List Ex} {i:Nat} (h:Gy p i) {t:Ex} (hm:D0 9 t) (h1:t.size=1):Gy (p++[t]) (i+1):=by
 refine⟨fun x A=>?_,?_⟩
 ·rcases Zew.1 A with A | A
  ·exact h.made x A
  simp at A;rw[A];exact hm
 have:=h.size;rw[Tree.En];simp[Tree.Bf];omega
theorem Air {t:Ex} (h:D0 9 t) (A:t.Ak.kind≠8):D0 9 (.node ⟨1,0,⟨#[]⟩,0⟩ [t]):=
 D0.node (.neg _ _ rfl ⟨rfl,rfl,rfl⟩ A) (fun e=>by simp at e) (fun e=>by simp at e) yV
theorem Abd {t u:Ex} (h:D0 9 t) (A:D0 9 u) (k:UInt8) (h2:2<=k.toNat) (h7:k.toNat<=7):D0 9 (.node ⟨k,0,⟨#[]⟩,0⟩ [t,u]):=
 D0.node (.two _ _ _ h2 h7 ⟨rfl,rfl,rfl⟩) (fun e=>by simp only at e;rw[e]at h7;simp at h7) (fun e=>by simp only at e;rw[e]at h7;simp at h7) (by simp only[Zbc,Zbe,Zic];rintro x (rfl | rfl)<;>assumption)
theorem Hv (x:Nat) (A:x<2^64) (D:D1 x=true):D0 9 (.node ⟨8,x,⟨#[]⟩,0⟩ []):=
 D0.node (.num _ rfl A D rfl rfl) (fun e=>by simp at e) (fun e=>by simp at e) yF
theorem Yo (s:zS) (A:s∈Cv):D0 9 (.node ⟨9,0,s,0⟩ []):=
 D0.node (.var _ rfl rfl (Q0 A) rfl) (fun _=>A) (fun e=>by simp at e) yF
theorem Ais (c:Int) (h0:0<=c) (h9:c<=9):D0 9 (.node ⟨10,0,⟨#[]⟩,c⟩ []):=
 D0.node (.cap _ rfl rfl rfl h0 h9) (fun e=>by simp at e) (fun _=>h9) yF
theorem Gy.neg {p:List Ex} {i:Nat} {a:Ex} (h:Gy (p++[a]) i) (A:a.Ak.kind≠8):Gy (p++[.node ⟨1,0,⟨#[]⟩,0⟩ [a]]) (i+1):=by
 refine⟨fun x a1=>?_,?_⟩
 ·rcases Zew.1 a1 with a1 | a1
  ·exact h.made x xP
  simp at a1;rw[a1];exact Air (h.made a yF) A
 exact Z2l
theorem Gy.op {p:List Ex} {i:Nat} {a b:Ex} (h:Gy (p++[a,b]) i) (k:UInt8) (h2:2<=k.toNat) (h7:k.toNat<=7):Gy (p++[.node ⟨k,0,⟨#[]⟩,0⟩ [a,b]]) (i+1):=by
 refine⟨fun x a1=>?_,?_⟩
 ·rcases Zew.1 a1 with a1 | a1
  ·exact h.made x xP
  simp at a1;rw[a1];exact Abd (h.made a yF) (h.made b yF) k h2 h7
 exact Z2l
theorem Gy.len {p:List Ex} {i:Nat} (h:Gy p i):p<=i:=by
 have h1:=h.size;have h2:=Tree.Co p;omega
structure Xx (n:Nat) (t:Ex) (rest:List Ex):Prop where
 made:D0 9 t
 each:∀x∈rest,D0 9 x
 size:t.size+Tree.Bf rest+rest<=n
theorem Gy.end_ {t:Ex} {rest:List Ex} {i:Nat} (h:Gy (t::rest) i):Xx (2*i) t rest:=by
 have h1:=h.size;have h2:=h.len;simp only[Tree.Bf,Zao]at h1 h2;exact⟨h.made t yF,fun x a1=>h.made x xP,yE⟩
theorem Xx.join {n:Nat} {t x:Ex} {rest:List Ex} (h:Xx n t (x::rest)):Xx n (.node ⟨2,0,⟨#[]⟩,0⟩ [t,x]) rest:=by
 have h1:=h.size;simp only[Tree.Bf,Zao]at h1;exact⟨Abd h.made (h.each x yF) 2 yH yH,fun y hy=>h.each y (by simp[hy]),by simp only[Tree.size,Tree.Bf];omega⟩
end
section
open Tryz Go.RowKit Go.Shelf
theorem Ahh {x:Nat} (h:Gq x=false):B7 x=x:=by unfold B7;rw[h];rfl
theorem Ahi {x:Nat} (h:Gq x=true):B7 x=Gr:=by unfold B7;rw[h];rfl
theorem Aia {a b:Nat} (h:a=b):Ending.returned (.float .f64 a)=.returned (.float .f64 b):=by rw[h]
end
section
open Tryz Go.RowKit Go.Shelf
theorem Ami (x:Dl) (bp:x.Bw.size<=10000) (cs:zP) (w:zN) (n:Nat) (ah:n<=w) (a1:L0 w n x cs):
  Calls prog 59 #[.agg cs.toArray] w fun e w'=>∃a0,e=.returned (.agg a0.toArray)/\Bz w' (fun b=>w<=b/\b<w') x a0/\Below w w w':=by
 obtain⟨z0,G,z2,z3,H,J,z9,rfl,cl⟩:=Bz.open a1
 obtain⟨dq,gd⟩:=zL ((w.alloc (.cells #[x.kind,x.text,x.group,z0,.float .f64 G,z2,z3,.slice H J z9] 124)).alloc (.cells #[zJ,zC,zE,zJ,zD,zC,zE,zH] 124))
 refine Z30 ?_
 intro c0 gh
 have df:dq.rangeAt w 0 [x.kind,x.text,x.group,z0,.float .f64 G,z2,z3,.slice H J z9]:=by rw[<-gd];exact Aa (Ae w _ 124) (Af _) yF
 have ow:dq.heap[w.heap.size]? =some (.cells #[x.kind,x.text,x.group,z0,.float .f64 G,z2,z3,.slice H J z9] 124 (0,0)):=tT
 have fu:dq.heap[w.heap.size+1]? =some (.cells #[zJ,zC,zE,zJ,zD,zC,zE,zH] 124 (0,0)):=by rw[<-gd];have:=Zhe (w.alloc (.cells #[x.kind,x.text,x.group,z0,.float .f64 G,z2,z3,.slice H J z9] 124)) (.cells #[zJ,zC,zE,zJ,zD,zC,zE,zH] 124);rwa[Zaq]at this
 refine Z4C ?_
 intro c3 d3 d4 d5 d6 d7 hq hv ho
 clear df ow fu a1 cl
 go_enter func59,ntmps59
 go_wp2_with fail
 refine Z0P ?_
 rintro e ad ⟨es,rfl,O,af⟩
 obtain⟨u0,u1,u2,u3,u7,u8,u9,rfl⟩:=Ch.G2 (Fb.in O)
 refine Z3O ?_
 intro ox me ha eF
 have a2:ad.there w 3 5:=by
  intro j M;refine⟨?_,by simp[World.frozen?,ox]⟩;simp only[World.cell?,ox]
  match j,M with
  | 0,_ | 1,_ | 2,_ | 3,_ | 4,_=>rfl
 have ck:=Zaa a2
 have a3:ad.there (w+1) 0 8:=by
  intro j M;refine⟨?_,vY⟩;simp only[World.cell?,me]
  match j,M with
  | 0,_ | 1,_ | 2,_ | 3,_ | 4,_ | 5,_ | 6,_ | 7,_=>rfl
 have a8:=Zaa a3
 clear d3 d4 d5 d6 d7 a2 a3 ox me
 have bbj:ad.rangeAt w 0 [x.kind,x.text,x.group]:=fun j v A=>ha j v (by
  match j,A with
  | 0,A | 1,A | 2,A=>exact A)
 refine Z4h ?_
 intro ag cr kj qi
 have F:ag.rangeAt w 0 [x.kind,x.text,x.group]:=tS
 have ab:=F 0 _ rfl
 have aa:=F 1 _ rfl
 have a6:=F 2 _ rfl
 have ac:=qi 0 _ rfl
 have ai:=qi 1 _ rfl
 have ae:=qi 2 _ rfl
 have a5:=qi 3 _ rfl
 have a9:=qi 4 _ rfl
 simp only[Zac,Zaf,Nat.reduceAdd]at ab aa a6 ac ai ae a5 a9
 have W:=Zaa (Gh a8.out (kj.block (w+1) yE yF))
 obtain⟨D,T⟩:=zL (ag.setCells (w+1) 0 [x.kind,x.text,x.group,u0,.float .f64 u1,u2,u3,.slice u7 u8 u9])
 have V:ag.grownBy D (some (w.heap.size+1)):=by rw[<-T];exact Ao _ _ _ _
 have aj:D.rangeAt (w+1) 0 [x.kind,x.text,x.group,u0,.float .f64 u1,u2,u3,.slice u7 u8 u9]:=by rw[<-T];exact Zar _ _ _ _ W.out
 have a4:Below w w D:=((c0.trans (af.mono yE)).grown kj yE (fun r e=>wI)).grown V (by have:=kj.size;omega) (fun r e=>yM)
 have al:=kj.size
 have ak:=V.size
 have Y:Bz D (fun b=>w<=b/\b<D) x [x.kind,x.text,x.group,u0,.float .f64 u1,u2,u3,.slice u7 u8 u9]:=by
  refine⟨[u0,.float .f64 u1,u2,u3,.slice u7 u8 u9],rfl,?_⟩;refine Tree.A6.mono (Tree.A6.block O fun b U=>?_) fun b U=>⟨yE,yE⟩
  exact(V.block b yE yJ).trans (kj.block b U.2 yJ)
 have a7:=Zaa Y
 clear O bbj F qi ha Y
 go_wp2_with (first
  | (refine Zil rfl 118 _ _ rfl _ _ _ rfl rfl ck.out yG yL ?_;rw[show(#[u0,.float .f64 u1,u2,u3,.slice u7 u8 u9]:Array Value).toList=[.int .u8 u0.toNat,.float .f64 u1,.string u2,.int .i64 u3,.slice u7 u8 u9]from rfl,cr])
  | (refine Zil rfl 124 _ _ rfl _ _ _ rfl rfl W.out yG yL ?_;rw[show(#[x.kind,x.text,x.group,u0,.float .f64 u1,u2,u3,.slice u7 u8 u9]:Array Value).toList=[.int .u8 x.kind.toNat,.string x.text,.int .i64 x.group,.int .u8 u0.toNat,.float .f64 u1,.string u2,.int .i64 u3,.slice u7 u8 u9]from rfl,T]))
 exact Zho (Aq rfl _ _ _ _ _ rfl aj yG yG) rfl ⟨_,rfl,a7.out,a4⟩
end
section
open Tryz Go.RowKit Go.Shelf
theorem Cz.shape {w:zN} {S:zT} {t:Ex} {cs:zP} (h:Cz w S t cs):
  ∃(a:zO) (c:Nat),cs=[.int .u8 t.Ak.kind.toNat,.float .f64 t.Ak.num,.string t.Ak.name,.int .i64 t.Ak.cap,.slice a t.Cb c]:=by
 exact Z2i
theorem B2.shape {w:zN} {S:zT} {t:Rx} {cs:zP} (h:B2 w S t cs):
  ∃(a:zO) (c:Nat),cs=[.int .u8 t.Ak.kind.toNat,.int .u64 t.Ak.s0.toNat,.int .u64 t.Ak.s1.toNat,.int .u64 t.Ak.s2.toNat,.int .u64 t.Ak.s3.toNat,.int .i64 t.Ak.mn,.int .i64 t.Ak.mx,.slice a t.Cb c]:=by
 exact Z2i
theorem Ah1 {w:zN} {S:zT} (x:Dl) (cs:zP) (h:Bz w S x cs):Y9 cs:=by
 obtain⟨es,rfl,A⟩:=h;obtain⟨a,c,rfl⟩:=Cz.shape A;exact⟨_,_,_,_,_,_,_,_,_,_,rfl⟩
theorem Aai {w:zN} {S:zT} (x:Dv) (cs:zP) (h:C2 w S x cs):T8 cs:=by
 obtain⟨v,es,rfl,⟨F,D,rfl,_⟩,A⟩:=h;obtain⟨a,c,rfl⟩:=Cz.shape A;exact⟨_,_,_,_,_,_,_,_,_,_,_,_,rfl⟩
theorem X7 {w:zN} {S:zT} (x:A7) (cs:zP) (h:Bj w S x cs):Y8 cs:=by
 obtain⟨F,v,rfl,A,G,D,rfl,_⟩:=h;obtain⟨a,c,rfl⟩:=B2.shape A;exact⟨_,_,_,_,_,_,_,_,_,_,_,_,_,_,_,_,_,_,_,_,rfl⟩
theorem An7 (x:Dv) (bp:x.Bw.size<=10000) (aH:∀p∈x.Ay,p.Bw.size<=10000) (aO:x.Ay.length<=20000) (cs:zP) (w:zN) (n:Nat) (ah:n<=w) (hA:Aht w n x cs):
  Calls prog 56 #[.agg cs.toArray] w fun e w'=>∃ap,e=.returned (.agg ap.toArray)/\C2 w' (fun b=>w<=b/\b<w') x ap/\Below w w w':=by
 obtain⟨z0,Y,z2,z3,a0,a1,z9,v,rfl,cl,ar⟩:=C2.open hA
 have aq:=ar
 obtain⟨O,M,rfl,-⟩:=ar
 obtain⟨dq,gd⟩:=zL ((w.alloc (.cells #[x.kind,x.name,.slice O x.Ay M,z0,.float .f64 Y,z2,z3,.slice a0 a1 z9] 120)).alloc (.cells yD 120))
 refine Z30 ?_
 intro c0 gh
 have df:dq.rangeAt w 0 [x.kind,x.name,.slice O x.Ay M,z0,.float .f64 Y,z2,z3,.slice a0 a1 z9]:=by rw[<-gd];exact Aa (Ae w _ 120) (Af _) yF
 have ow:dq.heap[w.heap.size]? =some (.cells #[x.kind,x.name,.slice O x.Ay M,z0,.float .f64 Y,z2,z3,.slice a0 a1 z9] 120 (0,0)):=tT
 have fu:dq.heap[w.heap.size+1]? =some (.cells yD 120 (0,0)):=by rw[<-gd];have:=Zhe (w.alloc (.cells #[x.kind,x.name,.slice O x.Ay M,z0,.float .f64 Y,z2,z3,.slice a0 a1 z9] 120)) (.cells yD 120);rwa[Zaq]at this
 refine Z4C ?_
 intro c3 d3 d4 d5 d6 d7 hq hv ho
 clear df ow fu hA cl
 go_enter func56,ntmps56
 go_wp2_with fail
 refine Z0P ?_
 rintro e ad ⟨es,rfl,a5,af⟩
 obtain⟨u0,u1,u2,u3,u7,u8,u9,rfl⟩:=Ch.G2 (Fb.in a5)
 refine Z3O ?_
 intro ox me ha eF
 have au:ad.there w 3 5:=by
  intro j W;refine⟨?_,by simp[World.frozen?,ox]⟩;simp only[World.cell?,ox]
  match j,W with
  | 0,_ | 1,_ | 2,_ | 3,_ | 4,_=>rfl
 have ck:=Zaa au
 have a6:ad.there (w+1) 0 8:=by
  intro j W;refine⟨?_,vY⟩;simp only[World.cell?,me]
  match j,W with
  | 0,_ | 1,_ | 2,_ | 3,_ | 4,_ | 5,_ | 6,_ | 7,_=>rfl
 have aI:=Zaa a6
 have bbj:ad.rangeAt w 0 [x.kind,x.name,.slice O x.Ay M]:=fun j v A=>ha j v (by
  match j,A with
  | 0,A | 1,A | 2,A=>exact A)
 refine Z4h ?_
 intro ag cr kj qi
 have a2:ag.rangeAt w 0 [x.kind,x.name,.slice O x.Ay M]:=tS
 obtain⟨aL,am⟩:∃cur,ag.heap[w.heap.size]? =some (.cells cur 120 (0,0)):=by rw[<-cr];exact Gt ad _ _ _ _ ox
 have aP:=kj.size
 have a8:Below w w ag:=(c0.trans (af.mono yE)).grown kj yE (fun r e=>wI)
 have ak:=Gh a6 (kj.block (w+1) yE yF)
 have aA:=a2 2 _ rfl
 simp only[Zac]at aA
 clear d3 d4 d5 d6 d7 au a6 ox me
 have aG:=Zaa (Ajn Bz.Ab (fun _ _ x cs h=>Ah1 x cs h) 59 (fun _ _=>rfl) x.Ay _ ag n yE yE ((Al.Ab Bz.Ab).below aq (a8.mono ah)) (fun y hy cs X az hI=>Ami y (aH y hy) cs X n xV hI))
 have aB:=Zaa a2
 have aD:=Zaa qi
 have ax:=Zaa ak
 have aC:=Zaa am
 clear a2 qi ak bbj ha aq am
 go_wp2_with (refine Zil rfl 118 _ _ rfl _ _ _ rfl rfl ck.out yG yL ?_;rw[show(#[u0,.float .f64 u1,u2,u3,.slice u7 u8 u9]:Array Value).toList=[.int .u8 u0.toNat,.float .f64 u1,.string u2,.int .i64 u3,.slice u7 u8 u9]from rfl,cr])
 refine aG.out.mono ?_
 rintro e J ⟨aN,rfl,ab,c9⟩
 have ae:=ab
 obtain⟨D,F,rfl,-⟩:=ab
 have av:=(c9.block w yE).trans aC.out
 have aa:=Aa aD.out c9 yE
 have a4:=Aa aB.out c9 yE
 have al:=Gh ax.out (c9.block (w+1) yE)
 have aM:=c9.size
 have f2:J.frozen? ⟨w,2,none⟩=false:=by simp[World.frozen?,av]
 have an:=a4 2 _ rfl
 simp only[Zac]at an
 obtain⟨G,aF⟩:=zL (J.setCell ⟨w,2,none⟩ (.slice D x.Ay F))
 have T:J.setCells w 2 [.slice D x.Ay F]=G:=aF
 have rq:J.grownBy G (some w.heap.size):=by rw[<-T];exact Ao _ _ _ _
 have aj:J.there w 2 1:=by
  intro j W;obtain rfl:j=0:=yE;exact⟨by simp[an],f2⟩
 have ai:G.rangeAt w 2 [.slice D x.Ay F]:=by rw[<-T];exact Zar _ _ _ _ aj
 have H:G.rangeAt w 3 [u0,.float .f64 u1,u2,u3,.slice u7 u8 u9]:=by rw[<-T];exact Zhl aa _ _ _ (.inr (.inr yF))
 have ao:J.rangeAt w 0 [x.kind,x.name]:=fun j v A=>a4 j v (by
  match j,A with
  | 0,A | 1,A=>exact A)
 have a3:G.rangeAt w 0 [x.kind,x.name]:=by rw[<-T];exact Zhl ao _ _ _ (.inr (.inl yF))
 have g0:=a3 0 _ rfl
 have g1:=a3 1 _ rfl
 have g2:=ai 0 _ rfl
 have g3:=H 0 _ rfl
 have g4:=H 1 _ rfl
 have g5:=H 2 _ rfl
 have g6:=H 3 _ rfl
 have g7:=H 4 _ rfl
 simp only[Zac,Zaf,Nat.reduceAdd]at g0 g1 g2 g3 g4 g5 g6 g7
 have ac:=Zaa (Gh al (rq.block (w+1) yE yF))
 have aJ:=rq.size
 obtain⟨V,a7⟩:=zL (G.setCells (w+1) 0 [x.kind,x.name,.slice D x.Ay F,u0,.float .f64 u1,u2,u3,.slice u7 u8 u9])
 have oa:G.grownBy V (some (w.heap.size+1)):=by rw[<-a7];exact Ao _ _ _ _
 have ay:V.rangeAt (w+1) 0 [x.kind,x.name,.slice D x.Ay F,u0,.float .f64 u1,u2,u3,.slice u7 u8 u9]:=by rw[<-a7];exact Zar _ _ _ _ ac.out
 have aK:=oa.size
 have aE:Below w w V:=((a8.trans (c9.mono yE)).grown rq yE (fun r e=>wI)).grown oa yE (fun r e=>yM)
 have a9:C2 V (fun b=>w<=b/\b<V) x [x.kind,x.name,.slice D x.Ay F,u0,.float .f64 u1,u2,u3,.slice u7 u8 u9]:=by
  refine⟨.slice D x.Ay F,[u0,.float .f64 u1,u2,u3,.slice u7 u8 u9],rfl,?_,?_⟩
  ·refine(Al.Ab Bz.Ab).wide ((Al.Ab Bz.Ab).block ae fun b U=>?_) fun b U=>⟨yE,yE⟩
   exact(oa.block b yE yJ).trans (rq.block b U.2 yJ)
  refine Tree.A6.mono (Tree.A6.block a5 fun b U=>?_) fun b U=>⟨yE,yE⟩
  exact Z2a
 have aw:=Zaa a9
 clear a5 ai H a3 aa a4 ao ae a9 al aj av T
 go_wp2_with (refine Zil rfl 120 _ _ rfl _ _ _ rfl rfl ac.out yG yL ?_;rw[show(#[x.kind,x.name,.slice D x.Ay F,u0,.float .f64 u1,u2,u3,.slice u7 u8 u9]:Array Value).toList=[.int .u8 x.kind.toNat,.string x.name,.slice D x.Ay F,.int .u8 u0.toNat,.float .f64 u1,.string u2,.int .i64 u3,.slice u7 u8 u9]from rfl,a7])
 exact Zho (Aq rfl _ _ _ _ _ rfl ay yG yG) rfl ⟨_,rfl,aw.out,aE⟩
end
end Go.Proofs.YtafmoofknjncpaaGreatDoor
