/- A part of the proof that ModelWrong holds: its theorems stand as they are typed. -/
import Derived.Test.YtafmoofknjncpaaGreatDoorP
set_option linter.all false
set_option maxRecDepth 100000
set_option maxHeartbeats 8000000
namespace Go.Proofs.YtafmoofknjncpaaGreatDoor
section
open Tryz Go.RowKit Go.Shelf
structure S3 where
 (kind n:UInt8) (bits:UInt64)
def S3.cells (x:S3):List Value:=[.int .u8 x.kind.toNat,.int .u8 x.n.toNat,.int .u64 x.bits.toNat]
theorem Q2 (w:zN):Calls prog 108 #[] w fun e w'=>e=.returned (.float .f64 Gr)/\w=w':=by
 go_enter func108,ntmps108
 go_wp2;exact Z0K
theorem Cy {P:Program} {ops:Array Oper} {L:Act->World->Prop} {c:Nat->World->Prop} {a:Act} {w:zN} {o:Oper} {ks:List Nat} {r:List (Oper×(Option Nat ⊕ List Nat))} (ar:o.guard=none)
  (h:∀K:Act->World->Prop,(∀a w,(∀k∈ks,c k w)->Dn P ops c L r a w->K a w)->wpList P ops (Dz fun _ A w'=>K A w') [o] a w):Dn P ops c L ((o,.inr ks)::r) a w:=by
 have h1:=h (fun A w'=>(∀k∈ks,c k w')/\Dn P ops c L r A w') (fun _ _ h1 h2=>⟨h1,h2⟩)
 refine Z3h ?_
 intro hw
 simp only[Dn]
 simp only[wpList]at h1
 rw[if_pos hw]at h1
 rw[if_pos hw]
 exact Z1J
theorem nodeInfo:∃a,prog.info? 118=some a/\a.size=5:=by
 have h:=Eu;cases hp:prog.info? 118 with
 | none=>rw[hp]at h;cases h
 | some i=>
  rw[hp]at h;simp only[Zaj,Zbb,Zgr]at h;exact⟨i,rfl,h.1⟩
theorem Jv {w:zN} {S:zT} {l:Df} {s:List Ex} {cs:zP} (h:Cz w S (.node l s) cs):∃a c,cs=[.int .u8 l.kind.toNat,.float .f64 l.num,.string l.name,.int .i64 l.cap,.slice a s c]:=by
 obtain⟨a,c,rfl,-⟩:=Tree.A6.open h;exact⟨a,c,rfl⟩
theorem Au.there {α:Type} {I:World->(Nat->Prop)->α->List Value->Prop} {w:zN} {lo K g n c:Nat} {e:TypeId} {l:List α} (h:Au I lo e K w l (.slice (some ⟨g,0,none⟩) n c)) (i:Nat) (A:i<l):w.there g (i*K) K:=by
 rcases h.at with h0 | ⟨H,G,D,-,-,F⟩
 ·rw[h0]at A;simp at A
 injection D with h1;injection h1 with h1;injection h1 with h1;subst h1;exact(F i A).choose_spec.2.2.2
theorem Oe (g:Nat) (t:TypeId):∀(vs:zP) (j:Nat) (w:zN) (cs:Array Value),w.heap[g]? =some (.cells cs t (0,0))->∃A,(w.setCells g j vs).heap[g]? =some (.cells A t (0,0))/\A.toList=Qq cs.toList j vs
 | [],_,w,cs,h=>⟨cs,h,rfl⟩
 | v::r,j,w,cs,h=>by
  obtain⟨A,h1,h2⟩:=Oe g t r (j+1) _ _ (Zhy w g j cs t v h);exact⟨A,h1,by rw[h2];simp[Qq]⟩
theorem Nq (w:zN) (g:Nat) (t:TypeId) (cs vs:zP) (h:w.heap[g]? =some (.cells cs.toArray t (0,0))) (A:cs.length=vs):(w.setCells g 0 vs).heap[g]? =some (.cells vs.toArray t (0,0)):=by
 obtain⟨D,h1,h2⟩:=Oe g t vs 0 w _ h;have h3:=Rw vs cs [] [] A;simp only[Zau,Zdk,Zav]at h3;rw[h1];congr 2;apply Array.toList_inj.1;rw[h2];exact h3
theorem Dp {w:zN} {b:Nat} {cs:zP} {t:TypeId} (h:w.heap[b]? =some (.cells cs.toArray t (0,0))):w.there b 0 cs:=by
 intro j A;refine⟨?_,by simp[World.frozen?,h]⟩;simp[World.cell?,h,A]
theorem Agw (l:List S3) (h8:l.length<=8) (a:zO) (c:Nat) (co:l<=c) (w:zN) (n:Nat) (cn:n<=w) (aS:Bs w n 3 a (l.map S3.cells)):
  Calls prog 80 #[.slice a l c] w fun e w'=>∃t cs,e=.returned (.agg cs.toArray)/\Fb w' w t cs/\D0 9 t/\t.size<=16/\Below w w w':=by
 have cu:min (l.length:Int) 60=l.length:=yE
 obtain⟨aC,gd⟩:=zL (w.alloc (.cells zX 118))
 have b5:Below w w aC:=by rw[<-gd];exact Af _
 have bf:aC.heap.size=w+1:=xY
 have be:aC.heap[w.heap.size]? =some (.cells zX 118 (0,0)):=by rw[<-gd];exact Zhe w _
 have bK:=Zaa be
 have x2:=Zaa bf
 have c6:=Zaa aS
 clear be bf aS
 go_enter func80,ntmps80
 go_wp2_with fail
 clear gd
 go_loopw [3,18] (fun u v wr=>∃(i:Nat) (p:List Ex),i<=l/\v=.int .i64 i/\Au (A2 Cz (w+1)) (w+1) 118 5 wr p u/\Gy p i/\Below (w+1) aC wr) (fun _ v _=>l.length - (intOf v).toNat)
 case atStart=>exact⟨0,[],Zap _,rfl,Au.nil _ _ _ _ _,Gy.nil,Zai _ _⟩
 case round=>
  obtain⟨i,p,cl,rfl,av,aj,U⟩:=hrel;obtain⟨e6,gc,rfl,qv⟩:=av.shape;by_cases ao:i<l
  ·have cK:(i:Int) <l.length:=by omega
   rcases c6.out with e | ⟨b,o,rfl,cG,b6⟩
   ·rw[Zbr]at e;rw[e]at ao;simp at ao
   have af:=b5.trans (U.mono wZ);have h1:=Aa (b6 i xX).1 af yE;rw[Zbh]at h1;generalize l[i]=x at h1;obtain⟨k,m,bits⟩:=x;have c5:=k.toNat_lt;have c8:=m.toNat_lt;have bdd:=bits.toNat_lt;simp only[S3.cells]at h1;generalize k.toNat=Y at h1 c5;generalize m.toNat=M at h1 c8;generalize bits.toNat=B at h1 bdd;have d0:=h1 0 _ rfl;have d1:=h1 1 _ rfl;have d2:=h1 2 _ rfl;simp only[Zaf]at d0;obtain⟨ay,ic⟩:=zL (wr.alloc (.cells #[.int .u8 Y,.int .u8 M,.int .u64 B] 216));have bt:Below wr wr ay:=wH;have np:ay.heap.size=wr+1:=xS;have j8:ay.rangeAt wr 0 [.int .u8 Y,.int .u8 M,.int .u64 B]:=by rw[<-ic];exact Ae wr [.int .u8 Y,.int .u8 M,.int .u64 B] 216
   have yi:=Zaa j8;have dg:=j8 0 _ rfl;have dm:=j8 1 _ rfl;have cd:=j8 2 _ rfl;simp only[Zac]at dg dm cd;have aM:=aj.len;have bo:=av.below (A2.Ab Cz.Ab _) bt (Zab _);have iv:=U.trans (bt.mono (by have:=U.size;have:=x2.out;omega));have bu:p.length+1<=maxLen/\(p.length+1)*64<=140737488355328:=⟨yP,yE⟩;have im:=Zaa bu;have ff:=Zaa bo;have dw:=Zaa aj;have c2:=Zaa iv;have bE:=U.size;have bW:=x2.out;obtain⟨q,aF⟩:∃q,q=p.length:=⟨_,rfl⟩;rw[<-aF]at ff aM qv|-;have hv:=Zaa aF;clear av bo aj U iv b6 h1 j8 aF af bu;rcases(show(Y:Int)%12=0\/(Y:Int)%12=1\/(Y:Int)%12=2\/(Y:Int)%12=3\/(Y:Int)%12=4\/(Y:Int)%12=5\/6<=(Y:Int)%12 from yE)with h12 | h12 | h12 | h12 | h12 | h12 | h12
   ·skip
    exact Z06
   ·skip
    exact Z06
   ·skip
    exact Z3q
   ·skip
    exact Z3q
   ·skip
    obtain⟨G,cQ,cc,bM⟩:∃G:Int,(M:Int)%10=G/\0<=G/\G<=9:=⟨_,rfl,yE,yE⟩;have fx:Below ay ay ay:=Zai _ _;have hI:A2 Cz (w+1) ay (fun b=>b< (ay).heap.size/\some b≠(Value.slice e6 q gc).ownBlock) (.node ⟨10,0,⟨#[]⟩,G⟩ []) [.int .u8 10,zD,zC,G,zH]:=Tree.A6.shut (E:=Df.cells) (l:=⟨10,0,⟨#[]⟩,G⟩) (Zap _) (.inl rfl);refine Z2W ?_;intro ht dv hs bp;clear hI dv;go_wp2_with (at_builtin;go_loud (refine Am (A2.Ab Cz.Ab _) rfl _ _ 116 rfl (w.heap.size+1) 118 5 64 Ep Eu yH p _ rfl hs.out _ _ rfl yE ht.out rfl yL im.out.1 im.out.2 yE ?_;intro ak ax ag cj jt al i2 ek _))
    go_roundw
    case rel=>exact⟨i+1,p++[(.node ⟨10,0,⟨#[]⟩,G⟩ [])],yE,yK,cj,dw.out.leaf (Ais _ cc bM) rfl,c2.out.trans ((fx.mono yE).trans (al.mono yE))⟩
    case measure=>simp[intOf];omega
   ·skip
    rcases(show q=0\/∃bc:Nat,(q:Int)=(bc:Int)+1 by rcases q with _ | bc;exact .inl rfl;exact .inr ⟨bc,yF⟩)with rfl | ⟨bc,aR⟩
    ·go_wp2_with fail
     exact Z0T
    refine Z3A ?_;intro cf;obtain⟨aq,t0,rfl⟩:=Fu cf;have k7:aq.length=bc:=vH;obtain⟨g,bD,an,bl,bw,e2⟩:=(ff.out.at).resolve_left cf;injection an with ar ap aw;subst ar aw;obtain⟨cs,dn,gk,kq,-⟩:=e2 bc yJ;rw[Zbn yE]at kq;simp only[k7,Zgj,Zek]at kq;obtain⟨⟨D,T,H,O⟩,F⟩:=t0;obtain⟨a6,a9,rfl,-⟩:=Tree.A6.open kq;simp only[Df.cells,Zas,Zau]at gk kq;have aO:=gk 0 _ rfl;have bg:=gk 1 _ rfl;have bi:=gk 2 _ rfl;have bb:=gk 3 _ rfl;have bz:=gk 4 _ rfl;simp only[Zaf]at aO;clear e2 dn gk ap cf;by_cases aA:D=8
    ·have bG:((D.toNat:Int) != 8)=false:=by rw[aA];rfl
     go_wp2_with fail
     exact Z0T
    have bG:((D.toNat:Int) != 8)=true:=by
     rw[bne_iff_ne];intro e;exact aA (Zha.1 (show D.toNat=8 from yE))
    have hC:=Amf _ _ ay _ (fun b U=>U.1.1) kq;have c3:=Zaa hC;have bV:=Zaa aA;clear hC kq aA;go_wp2_with fail
    refine Z0P ?_;rintro e ad ⟨aJ,rfl,aK,af⟩;have dv:=ff.out.below (A2.Ab Cz.Ab _) af (Zab _);have hy:A2 Cz (w+1) ad (fun b=>b<ad/\b≠g) (.node ⟨1,0,⟨#[]⟩,0⟩ [.node ⟨D,T,H,O⟩ F]) aJ:=Tree.A6.mono aK fun b U=>by
     exact Z2b
    obtain⟨a4,a3,rfl⟩:=Jv aK;refine Z2w ?_;intro ck hs o6 bp;clear dv hy aK;go_wp2_with (refine Zil rfl 118 _ _ rfl _ _ _ rfl rfl ?_ ?_ ?_ ?_)
    ·exact ck.out
    ·first | kernel_rfl | exact nodeInfo
    ·simp[Value.oneCell']
    have cj:=Au.F5 (A2.Ab Cz.Ab _) hs.out (cs:=[.int .u8 1,zD,zC,zE,.slice a4 1 a3]) rfl o6.out;rw[k7]at cj;have cm:=Ao ad g [.int .u8 1,zD,zC,zE,.slice a4 1 a3] (bc*5);generalize ad.setCells g (bc*5) [.int .u8 1,.float .f64 0,.string ⟨#[]⟩,.int .i64 0,.slice a4 1 a3]=ag at cj cm|-;go_roundw
    case rel=>exact⟨i+1,aq++[.node ⟨1,0,⟨#[]⟩,0⟩ [.node ⟨D,T,H,O⟩ F]],yE,yK,cj,dw.out.neg bV.out,(c2.out.trans (af.mono yE)).grown cm xH (fun r e=>yM)⟩
    case measure=>simp[intOf];omega
   skip
   rcases(show q=0\/q=1\/∃bc:Nat,(q:Int)=(bc:Int)+2 by rcases q with _ | _ | bc;exact .inl rfl;exact .inr (.inl rfl);exact .inr (.inr ⟨bc,yJ⟩))with rfl | rfl | ⟨bc,aR⟩
   ·go_wp2_with fail
    exact Z0T
   ·go_wp2_with fail
    exact Z0T
   have cf:p≠[]:=fun e=>by have:=hv.out;rw[e]at this;simp at this;omega
   obtain⟨bh,u0,rfl⟩:=Fu cf;have bC:bh≠[]:=fun e=>tW
   obtain⟨aq,t0,rfl⟩:=Fu bC;have k7:aq.length=bc:=vH;obtain⟨g,bD,an,bl,bw,e2⟩:=(ff.out.at).resolve_left cf;injection an with ar ap aw;subst ar aw;refine Z4O ?_;intro cs dn gk kq dk aQ w9 qh p6 bao;rw[p6]at kq;rw[bao]at qh;clear p6 bao;obtain⟨⟨D,T,H,O⟩,F⟩:=t0;obtain⟨⟨a2,un,a0,V⟩,us⟩:=u0;obtain⟨a6,a9,rfl,-⟩:=Tree.A6.open kq;obtain⟨ae,ac,rfl,-⟩:=Tree.A6.open qh;simp only[Df.cells,Zas,Zau]at gk kq w9 qh;obtain⟨a5,ce,bZ,c1⟩:∃a5:UInt8,(Y:Int)%12 - 4=(a5.toNat:Int)/\2<=a5.toNat/\a5.toNat<=7:=
    ⟨UInt8.ofNat (Y%12 - 4),by rw[Zhc];omega,by rw[Zhc];omega,by rw[Zhc];omega⟩
   have ct:¬((Y:Int)%12<2):=yE;have cH:¬((Y:Int)%12<4):=yE;have cx:((Y:Int)%12==4)=false:=yZ;have cv:((Y:Int)%12==5)=false:=yZ;have cw:(5:Int) < (Y:Int)%12:=yE;have cz:(1:Int) < (bc:Int)+2:=yE;have bi4:=Zaa qv;clear e2 dn aQ cf bC qv ap;go_wp2_with fail
   clear d0 d1 d2 dg dm cd;have gd:IntKind.i64.wrap (bc:Int)=bc:=Zcy _ yE;have cp:IntKind.i64.wrap ((bc:Int)+2 - 1)=(bc:Int)+1:=sR;have cB:((bc:Int)+1).toNat=bc+1:=yE;have cO:(0:Int)<=(bc:Int)+1:=yE;have cJ:IntKind.u8.wrap ((Y:Int)%12 - 4)=(a5.toNat:Int):=by rw[Zcz _ yE];exact ce
   refine Z50 ?_;intro qv lB ry ee c9;have jm:(ay.drewN 1).rangeAt g (bc*5) [D,.float .f64 T,H,O,.slice a6 F a9]/\(ay.drewN 1).rangeAt g ((bc+1)*5) [a2,.float .f64 un,a0,V,.slice ae us ac]:=⟨Ag gk yO,Ag w9 yO⟩;have j4:(ay.drewN 1).heap.size=ay.heap.size:=yO;refine C1 [(0,.inl none),(1,.inl none),(2,.inl none),(3,.inl none),(4,.inl none),(5,.inl none),(6,.inl none),(7,.inl none),(8,.inl none),(9,.inl none),(10,.inl none),(11,.inl none),(12,.inl (some 0)),(13,.inl none),(14,.inl none),(15,.inl none),(16,.inl none),(17,.inl (some 0)),(18,.inr []),(19,.inr []),(20,.inr []),(21,.inl none)]
    (fun _ W=>W.rangeAt g (bc*5) [D,.float .f64 T,H,O,.slice a6 F a9]/\W.rangeAt g ((bc+1)*5) [a2,.float .f64 un,a0,V,.slice ae us ac]) yG yG (fun _=>jm) ?_
   refine Z3s ?_;have aE:=Tree.A6.below kq c9 (fun b U=>U.1.1);have aL:=Tree.A6.below qh c9 (fun b U=>U.1.1);have aN:=ff.out.below (A2.Ab Cz.Ab _) c9 (Zab _);generalize ay.drewN 1=bd at c9 jm j4 aE aL aN|-;have hC:=Aih a5 _ _ _ _ bd _ (fun b U=>yQ) aE aL;have c3:=Zaa hC;have bN:=Zaa aN;clear ee jm gk w9 kq qh aE aL hC aN;refine Z00 ?_;refine Z00 ?_;refine Z00 ?_;refine Z00 ?_;refine Av (.agg #[D,.float .f64 T,H,O,.slice a6 F a9]) yI (fun w' ab=>?_) (fun K J=>?_)
   ·have aq:=ab.1 0 _ rfl
    have bh:=ab.1 1 _ rfl;have cq:=ab.1 2 _ rfl;have ed:=ab.1 3 _ rfl;have ez:=ab.1 4 _ rfl;simp only[Zaf]at aq bh cq ed ez;go_simp
   refine Z42 ?_;clear J K;refine Z4w ?_;refine Av (.agg #[a2,.float .f64 un,a0,V,.slice ae us ac]) yI (fun w' ab=>?_) (fun K J=>?_)
   ·have aq:=ab.2 0 _ rfl
    refine Z3c ?_;intro bh cq ed ez;simp only[Zaf]at aq bh cq ed ez;go_simp
   refine Z42 ?_;clear J K;refine Cy rfl (fun K J=>?_);go_wp2_with fail
   refine c3.out.mono ?_;rintro e b3 ⟨aJ,rfl,ah,bj⟩;obtain⟨a4,a3,rfl⟩:=Jv ah;go_wp2_with fail
   refine J _ _ yF ?_;clear J K;have bv:=bN.out.below (A2.Ab Cz.Ab _) bj (Zab _);have b9:Below ay ay b3:=c9.trans (bj.mono yE);have l9:=b9.size;have hI:A2 Cz (w+1) b3 (fun b=>b<b3) (.node ⟨a5,0,⟨#[]⟩,0⟩ [.node ⟨D,T,H,O⟩ F,.node ⟨a2,un,a0,V⟩ us]) [a5,zD,zC,zE,.slice a4 2 a3]:=Tree.A6.mono ah fun b U=>by
    rcases U with U | U
    ·have:=U.1.1;exact⟨yE,U.2⟩
    exact⟨U.2,yE⟩
   have ht:=Zaa hI;have bO:=Zaa bv;clear hI bv ah;refine Cy rfl (fun K J=>?_);go_wp2_with fail
   refine J _ _ yF ?_;clear J K;refine Cy rfl (fun K J=>?_);refine J2 (A2.Ab Cz.Ab _) rfl _ _ 116 rfl (w.heap.size+1) 118 5 64 Ep Eu yH _ _ _ _ bc rfl bO.out yJ _ [a5,zD,zC,zE,.slice a4 2 a3] rfl yE ht.out rfl yL yP yE yE ?_;intro ak ax k0 aP cM ca cP;simp only[wpList,Dz];refine J _ _ yF ?_;clear J K;have aV:(aq++[Tree.node ⟨D,T,H,O⟩ F]++[Tree.node ⟨a2,un,a0,V⟩ us]).take bc=aq:=sC;rw[aV]at aP;have bH:=Zaa aP;clear aP aV;refine Z2m ?_;refine C7 ?_;go_wp2_with fail
   have bm:=dw.out;rw[Zdj]at bm;go_roundw
   case rel=>exact⟨i+1,aq++[.node ⟨a5,0,⟨#[]⟩,0⟩ [.node ⟨D,T,H,O⟩ F,.node ⟨a2,un,a0,V⟩ us]],yE,yK,bH.out,bm.op a5 bZ c1,c2.out.trans ((b9.mono yE).trans (ca.mono yE))⟩
   case measure=>simp[intOf];omega
  obtain rfl:i=l:=by omega
  refine Z1q ?_;intro fe;obtain⟨A,bL⟩:∃A,A=wr:=⟨_,rfl⟩;subst bL;have iv:=b5.trans (U.mono wZ);have bA:=(U.block w yE).trans bK.out;have bJ:=Zaa bA;have bE:=U.size;have bW:=x2.out;clear bA;cases p with
  | nil=>
   simp only[Zav];go_wp2_with fail
   refine(Jq _ _).mono ?_;rintro e ad ⟨rfl,af⟩;have ck:=Zaa (Dp ((af.block w yE).trans bJ.out));have cL:=af.size;go_wp2_with (refine Zil rfl 118 _ _ rfl _ _ _ rfl rfl ?_ ?_ ?_ ?_)
   ·exact ck.out
   ·first | kernel_rfl | exact nodeInfo
   ·simp[Value.oneCell']
   have cm:=Ao ad w [.int .u8 8,.float .f64 4607182418800017408,zC,zE,zH] 0;have gp:=Zar ad w 0 [.int .u8 8,.float .f64 4607182418800017408,zC,zE,zH] ck.out;generalize ad.setCells w 0 [.int .u8 8,.float .f64 4607182418800017408,.string ⟨#[]⟩,.int .i64 0,.slice none 0 0]=lf at cm gp|-;have bB:=iv.trans (af.mono yE);exact Zho (Aq rfl _ _ _ _ _ rfl gp yG yG) rfl ⟨.node ⟨8,4607182418800017408,⟨#[]⟩,0⟩ [],[.int .u8 8,.float .f64 4607182418800017408,zC,zE,zH],rfl,Tree.A6.shut (E:=Df.cells) (l:=⟨8,4607182418800017408,⟨#[]⟩,0⟩) (Zap _) (.inl rfl),Hv _ yH yH,wV,bB.grown cm bB.size (fun r e=>yM)⟩
  | cons t0 rest=>
   obtain⟨g,bD,an,bl,bw,e2⟩:=(av.at).resolve_left yF;injection an with ar ap aw;subst ar aw;have b7:=aj.end_;have aM:=aj.len;obtain⟨k,a7⟩:∃k,k=(t0::rest).length:=⟨_,rfl⟩;obtain⟨bc,aD⟩:∃bc,bc=rest.length:=⟨_,rfl⟩;have aR:(k:Int)=(bc:Int)+1:=by rw[a7,aD];simp
   have cN:k<=gc:=yE;have aA:k<=8:=yE;rw[<-a7];have cb:=Zaa e2;obtain⟨cs,dn,gk,kq,-⟩:=e2 0 yF;simp only[Zek]at kq;obtain⟨⟨D,T,H,O⟩,F⟩:=t0;obtain⟨a6,a9,rfl⟩:=Jv kq;have aO:=gk 0 _ rfl;have bg:=gk 1 _ rfl;have bi:=gk 2 _ rfl;have bb:=gk 3 _ rfl;have bz:=gk 4 _ rfl;simp only[Zgl,Zac]at aO bg bi bb bz;have cg:((bc:Int)+1==0)=false:=yZ;obtain⟨az,aI⟩:=zL (A.alloc (.cells #[D,.float .f64 T,H,O,.slice a6 F a9] 118));have bk:Below A A az:=by rw[<-aI];exact Af _
   have ci:az.heap.size=A.heap.size+1:=by rw[<-aI];simp
   have aZ:az.heap[A.heap.size]? =some (.cells #[D,.float .f64 T,H,O,.slice a6 F a9] 118 (0,0)):=by rw[<-aI];exact Zhe A _
   have b2:Cz az (fun b=>w+1<=b/\b<az/\b≠A.heap.size) (.node ⟨D,T,H,O⟩ F) [D,.float .f64 T,H,O,.slice a6 F a9]:=Tree.A6.mono (Tree.A6.below kq bk (fun b U=>U.1.1)) fun b U=>by
    have h1:=U.1.1;have h2:=U.2;omega
   have bq:=Zaa b7;have aX:=Zaa bk;have aW:=Zaa aZ;have aY:=Zaa b2;have cD:=Zaa a7;have cE:=Zaa aD;have aB:bc=rest.length:=aD;clear b7 b2 aZ e2 gk kq dn a7 av aj qv ap aM;have bP:=Zaa aB;clear aB aD;have bQ:max (bc:Int) 0=bc:=yE;by_cases aT:gc=1
   ·subst aT
    obtain rfl:bc=0:=yE;obtain rfl:k=1:=yE;clear aR cg bQ;go_wp2_with fail
    go_loopw [137] (fun v wr=>∃(j:Nat) (t:Ex) (cs:zP),j<=0/\v=.int .i64 j/\Cz wr (fun b=>w+1<=b/\b<wr/\b≠A.heap.size) t cs/\wr.heap[A.heap.size]? =some (.cells cs.toArray 118 (0,0))/\Xx (2*l) t (rest.drop j)/\Below A A wr/\A.heap.size<wr.heap.size) (fun v _=>0 - (intOf v).toNat)
    case atStart=>exact⟨0,_,[D,.float .f64 T,H,O,.slice a6 F a9],Zap _,rfl,aY.out,aW.out,bq.out,aX.out,yE⟩
    case round=>
     obtain⟨j,t,cs,bF,rfl,au,nf,p7,sq,bR⟩:=hrel;by_cases bx:j<0
     ·exact absurd bx yE
     obtain rfl:j=0:=by omega
     exact Z0s
   have cr:¬(gc - 1=0):=by omega
   have cC:¬(gc=1):=aT;go_wp2_with fail
   go_loopw [137] (fun v wr=>∃(j:Nat) (t:Ex) (cs:zP),j<=bc/\v=.int .i64 j/\Cz wr (fun b=>w+1<=b/\b<wr/\b≠A.heap.size) t cs/\wr.heap[A.heap.size]? =some (.cells cs.toArray 118 (0,0))/\Xx (2*l) t (rest.drop j)/\Below A A wr/\A.heap.size<wr.heap.size) (fun v _=>bc - (intOf v).toNat)
   case atStart=>exact⟨0,_,[D,.float .f64 T,H,O,.slice a6 F a9],Zap _,rfl,aY.out,aW.out,bq.out,aX.out,yE⟩
   case round=>
    obtain⟨j,t,cs,bF,rfl,au,nf,p7,sq,bR⟩:=hrel;by_cases bx:j<bc
    ·have aB:=bP.out
     obtain⟨dk,aQ,w9,qh,-⟩:=cb.out (j+1) yJ;simp only[Zej]at qh;have ba:rest.drop j=rest[j]'yE::rest.drop (j+1):=Zbq yE;rw[ba]at p7;generalize rest[j]'yE=u0 at qh p7;obtain⟨⟨a2,un,a0,V⟩,us⟩:=u0;obtain⟨ae,ac,rfl⟩:=Jv qh;obtain⟨⟨ep,hJ,fg,br⟩,vs⟩:=t;obtain⟨bn,pt,rfl⟩:=Jv au;refine Z4b ?_;intro a1 c4 dt du hg nu;simp only[Zac]at c4 dt du hg nu;have ai:=Aa w9 sq yE;rw[show(j+1)*5=5+j*5 from yE]at ai;have b8:=ai 0 _ rfl;have bX:=ai 1 _ rfl;have bY:=ai 2 _ rfl;have c0:=ai 3 _ rfl;have c7:=ai 4 _ rfl;simp only[Zaf]at b8;obtain⟨ay,ic⟩:=zL (wr.alloc (.cells #[a2,.float .f64 un,a0,V,.slice ae us ac] 118));refine Z2N ?_;intro bt np;have j8:ay.rangeAt wr 0 [a2,.float .f64 un,a0,V,.slice ae us ac]:=by rw[<-ic];exact Ae wr [a2,.float .f64 un,a0,V,.slice ae us ac] 118
     have aH:=(bt.block A yE).trans nf;have am:=A4 aH;have z0:=am 0 _ rfl;have aU:=am 1 _ rfl;have z2:=am 2 _ rfl;have z3:=am 3 _ rfl;have z4:=am 4 _ rfl;refine Z3F ?_;intro s0 s1 s2 s3 va;simp only[Zac]at z0 aU z2 z3 z4 s0 s1 s2 s3 va;have b4:Below A A ay:=sq.trans (bt.mono yE);have cI:=U.size;have hC:Calls prog 113 #[.int .u8 2,.agg #[ep,.float .f64 hJ,fg,br,.slice bn vs pt],.agg #[a2,.float .f64 un,a0,V,.slice ae us ac]] ay _:=
      Aih 2 (.node ⟨ep,hJ,fg,br⟩ vs) (.node ⟨a2,un,a0,V⟩ us) _ _ ay (fun b=>w+1<=b/\b<wr/\b≠A.heap.size) (fun b U=>yE) (Tree.A6.below au bt (fun b U=>yE))
       (Tree.A6.mono (Tree.A6.below qh b4 (fun b U=>U.1.1)) fun b U=>⟨U.2,yQ,yQ⟩)
     have c3:=Zaa hC;have H2:=Zaa p7;have bT:=Zaa aH;clear hC p7 aH nf au qh w9 ai a1 am j8 aQ ba aB;go_wp2_with fail
     refine Z0P ?_;rintro e b3 ⟨aJ,rfl,ah,bj⟩;obtain⟨a4,a3,rfl⟩:=Jv ah;have aG:=(bj.block A yE).trans bT.out;have bS:=Zaa aG;have ck:=Zaa (Dp aG);have bU:=Zaa ah;have l9:=bj.size;clear aG ah c4 dt du hg nu b8 bX bY c0 c7 z0 aU z2 z3 z4 s0 s1 s2 s3 va;go_wp2_with (refine Zil rfl 118 _ _ rfl _ _ _ rfl rfl ?_ ?_ ?_ ?_)
     ·exact ck.out
     ·first | kernel_rfl | exact nodeInfo
     ·simp[Value.oneCell']
     have cm:=Ao b3 A [.int .u8 2,zD,zC,zE,.slice a4 2 a3] 0;have b1:=Nq b3 A 118 _ [.int .u8 2,zD,zC,zE,.slice a4 2 a3] bS.out rfl;generalize b3.setCells A 0 [.int .u8 2,.float .f64 0,.string ⟨#[]⟩,.int .i64 0,.slice a4 2 a3]=lf at cm b1|-;have cF:=cm.size;have ch:Cz lf (fun b=>w+1<=b/\b<lf/\b≠A.heap.size) (.node ⟨2,0,⟨#[]⟩,0⟩ [.node ⟨ep,hJ,fg,br⟩ vs,.node ⟨a2,un,a0,V⟩ us]) [.int .u8 2,zD,zC,zE,.slice a4 2 a3]:=
      Tree.A6.mono (Tree.A6.block bU.out (fun b U=>cm.block b (by rcases U with U | U<;>omega) (by simp;rcases U with U | U<;>omega))) fun b U=>by rcases U with U | U<;>omega
     go_roundw
     case rel=>exact⟨j+1,_,_,yE,yK,ch,b1,H2.out.join,(b4.trans (bj.mono yE)).grown cm yE (fun r e=>yM),yE⟩
     case measure=>simp[intOf];omega
    obtain rfl:j=bc:=by omega
    have cy:¬((j:Int) <j):=yE;exact Z0s
end
section
open Tryz Go.RowKit Go.Shelf
structure Ahq where
 (kind n:UInt8) (Ay:zQ) (Bw:List S3)
def Nb (_:zN) (_:zT) (x:UInt8) (cs:zP):Prop:=cs=[.int .u8 x.toNat]
theorem Nb.Ab:Cp Nb:=fun _ _ _ _ _ _ _ _ h=>h
def Xw (_:zN) (_:zT) (x:S3) (cs:zP):Prop:=cs=x.cells
theorem Xw.Ab:Cp Xw:=fun _ _ _ _ _ _ _ _ h=>h
def Mu (w:zN) (S:zT) (x:Ahq) (cs:zP):Prop:=∃D A,cs=[.int .u8 x.kind.toNat,.int .u8 x.n.toNat,D,A]/\Al Nb 1 w S x.Ay D/\Al Xw 3 w S x.Bw A
theorem Mu.Ab:Cp Mu:=by
 rintro w w' S S' p cs A hm ⟨v,u,rfl,h,k⟩;exact⟨v,u,rfl,Al.Ab Nb.Ab _ _ _ _ _ _ A hm h,Al.Ab Xw.Ab _ _ _ _ _ _ A hm k⟩
theorem Al.flat {α:Type} {I:World->(Nat->Prop)->α->List Value->Prop} {K:Nat} {w:zN} {n:Nat} {l:List α} {v:Value} (cells:α->List Value) (h:Al I K w (fun b=>b<n) l v) (hI:∀x cs,I w (fun b=>b<n) x cs->cs=cells x) (J:∀x,(cells x).length=K):
  ∃a c,v=.slice a l c/\l.length<=c/\∀k,Bs w n K a ((l.take k).map cells):=by
 obtain⟨a,c,rfl,A,h⟩:=h
 refine⟨a,c,rfl,A,fun k=>?_⟩
 rcases h with rfl | ⟨b,o,rfl,U,h⟩
 ·exact .inl yF
 refine .inr ⟨b,o,rfl,U,fun i ae=>?_⟩
 have D:i<l:=vB
 obtain⟨cs,h1,h2⟩:=h i D
 have:=hI _ _ h2
 subst this
 rw[Zbh,Zen]
 exact⟨h1,J _⟩
structure Sx (Cj:Int) (e:Ex) (l:List Dl):Prop where
 Ay:∀p∈l,Re Cj e p
 apart:Qg l
 Fm:l.length<=5
def Ow (Cj:Int) (a:Dv):Prop:=∃e,D0 Cj e/\e.size<=16/\
 ((a.kind=1/\a.name=Fw/\a.Bw=Dd/\Sx Cj e a.Ay)\/(a.kind=2/\a.name∈Dq/\a.Bw=Dd/\Sx Cj e a.Ay)\/(a.kind=3/\a.name∈Cv/\a.Bw=e/\a.Ay=[]))
theorem Ob (l:zQ) (v:Value) (w:zN) (n:Nat) (F:n<=w) (O:Al Nb 1 w (fun b=>b<n) l v) (t:Ex) (es:zP) (Cj:Int) (hm: -1<=Cj) (J:Cj<=100) (A:zT) (H:∀b,A b->b<w.heap.size) (G:Cz w A t es):
  Calls prog 81 #[v,.agg es.toArray,Cj] w fun U w'=>∃Ay v,U=.returned v/\Al Bz 8 w' (fun b=>(A b\/w.heap.size<=b)/\b<w'.heap.size) Ay v/\Sx Cj t Ay/\Below w w w':=by
 obtain⟨a,c,rfl,M,D⟩:=O.flat (fun(x:UInt8)=>[Value.int .u8 (x.toNat:Int)]) (fun _ _ h=>h) (fun _=>rfl)
 by_cases h5:l.length<=5
 ·have h:=D l
  rw[Zbk]at h;refine(Rt l _ rfl a c l t es Cj hm J w n A H F yE M h5 G h).mono ?_;exact Z2d
 have T:(l.take 5).length=5:=by rw[Zbo];omega
 refine(Rt (l.take 5) 5 T a c l t es Cj hm J w n A H F yE yE (Zab _) G (D 5)).mono ?_
 exact Z2d
theorem Ahn (x:Ahq) (Cj:Int) (hm: -1<=Cj) (rz:Cj<=100) (cs:zP) (w:zN) (n:Nat) (az:n<=w) (aP:Mu w (fun b=>b<n) x cs):
  Calls prog 50 #[.agg cs.toArray,Cj] w fun e w'=>∃t aE,e=.returned (.agg aE.toArray)/\C2 w' (fun b=>w<=b/\b<w') t aE/\Ow Cj t/\Below w w w':=by
 obtain⟨b9,b8,rfl,aH,aD⟩:=aP
 have aC:=aH
 obtain⟨de,db,rfl,bf,-⟩:=aH
 obtain⟨ch,cg,rfl,bc,av⟩:=aD.flat S3.cells (fun _ _ h=>h) (fun _=>rfl)
 obtain⟨L,bb,aZ,b2,a5⟩:∃L:Nat,min (x.Bw.length:Int) 8=(L:Int)/\L<=x.Bw/\L<=8/\(x.Bw.take 8).length=L:=⟨min x.Bw.length 8,yE,yE,yE,wQ⟩
 have b7:L<=cg:=yE
 have b1:max (L:Int) 0=L:=yE
 have J:=x.kind.toNat_lt
 have aW:=x.n.toNat_lt
 generalize x.kind.toNat=il at J|-
 generalize x.n.toNat=N at aW|-
 obtain⟨aw,aI⟩:=zL ((w.alloc (.cells #[.int .u8 il,.int .u8 N,.slice de x.Ay db,.slice ch x.Bw cg] 131)).alloc (.cells yD 120))
 have h2:=Hh w [.int .u8 il,.int .u8 N,.slice de x.Ay db,.slice ch x.Bw cg] [zJ,zC,zH,zJ,zD,zC,zE,zH] 131 120
 have hA2:aw.heap[w.heap.size+1]? =some (.cells yD 120 (0,0)):=by rw[<-aI];have:=Zhe (w.alloc (.cells #[.int .u8 il,.int .u8 N,.slice de x.Ay db,.slice ch x.Bw cg] 131)) (.cells yD 120);rwa[Zaq]at this
 rw[aI]at h2
 obtain⟨V,-,ax,be⟩:=h2
 have ai:=V 0 _ rfl
 have ae:=V 1 _ rfl
 have aa:=V 2 _ rfl
 have ak:=V 3 _ rfl
 simp only[Zac]at ai ae aa ak
 have aS:=Zaa V
 have aX:=Zaa hA2
 have ah:=Agw (x.Bw.take 8) yE ch cg yE aw n yE ((av 8).below (ax.mono az) (Zab _))
 rw[a5]at ah
 have aT:=Zaa ah
 have aQ:=Zaa aC
 have b5:=Zaa a5
 clear V hA2 ah av aD aC a5
 go_enter func50,ntmps50
 go_wp2_with fail
 refine aT.out.mono ?_
 rintro e ay ⟨t0,aU,rfl,ap,aK,aN,aA⟩
 have aG:=Aeq Cj t0 aU ay ay yE (Zab _) (Fb.in ap)
 have aB:=Zaa aG
 have a9:=Aes Cj t0 aK
 have au:(Fh Cj t0).size<=16:=Zag (Aer Cj t0) aN
 generalize Fh Cj t0=t at aB a9 au
 obtain⟨a3,ba,rfl⟩:=Ch.shape (Fb.in ap)
 clear aG aK aN ap
 go_wp2_with fail
 refine aB.out.mono ?_
 rintro e b4 ⟨b6,rfl,a8,aF⟩
 obtain⟨⟨e1,kg,dy,gq⟩,dh⟩:=t
 obtain⟨ie,ld,rfl⟩:=Jv a8
 have aV:=aA.size
 have bg:=aF.size
 have aL:=aA.trans (aF.mono aV)
 have a0:=Aa aS.out aL yE
 have f0:=a0 0 _ rfl
 have f1:=a0 1 _ rfl
 have f2:=a0 2 _ rfl
 obtain⟨bd,ar⟩:=zL (b4.alloc (.cells #[e1,.float .f64 kg,dy,gq,.slice ie dh ld] 118))
 have af:Below b4 b4 bd:=by rw[<-ar];exact Af _
 have aJ:bd.heap.size=b4+1:=by rw[<-ar];simp
 have O:bd.rangeAt b4 0 [e1,.float .f64 kg,dy,gq,.slice ie dh ld]:=by rw[<-ar];exact Ae b4 [e1,.float .f64 kg,dy,gq,.slice ie dh ld] 118
 have Y:=Aa a0 af yE
 have g0:=Y 0 _ rfl
 have g1:=Y 1 _ rfl
 have g2:=Y 2 _ rfl
 have s0:=O 0 _ rfl
 have s1:=O 1 _ rfl
 have s2:=O 2 _ rfl
 have s3:=O 3 _ rfl
 have ao:=O 4 _ rfl
 simp only[Zac]at f0 f1 f2 g0 g1 g2 s0 s1 s2 s3 ao
 have aO:=aL.trans (af.mono yE)
 have hA5:=(aO.block (w+1) yE).trans aX.out
 have aM:Cz bd (fun b=>w+2<=b/\b<bd) (.node ⟨e1,kg,dy,gq⟩ dh) [e1,.float .f64 kg,dy,gq,.slice ie dh ld]:=Tree.A6.mono (Tree.A6.below a8 af (fun b U=>U.2)) fun b U=>⟨yE,yE⟩
 have al:=ax.trans (aO.mono yE)
 have bd4:=Zaa Y
 have ri:=Zaa O
 have bol:=Zaa aM
 have bco:=Zaa hA5
 have zc:=Zaa al
 have q9:=Zaa (show D0 Cj (.node ⟨e1,kg,dy,gq⟩ dh)/\(Tree.node (⟨e1,kg,dy,gq⟩:Df) dh).size<=16 from⟨a9,au⟩)
 have bt6:=Zaa (Al.Ab Nb.Ab |>.below aQ.out (al.mono az))
 clear Y O aM hA5 al a9 au a8 a0
 rcases(show(il:Int)%4=0\/(il:Int)%4=1\/(il:Int)%4=2\/(il:Int)%4=3 from yE)with h4 | h4 | h4 | h4
 ·skip
  exact Z0e
 ·skip
  exact Z0e
 ·skip
  obtain⟨D,bbk,ag⟩:∃j:Nat,(N:Int)%2=(j:Int)/\j<2:=⟨N%2,yE,yE⟩;have aY:(D:Int) <2:=yE;have aR:(N:Int).tmod 2=(D:Int):=uU;obtain⟨s,b0⟩:∃s,Dq[D]? =some s:=⟨_,Zam (show D<Dq from ag)⟩;have am:s∈Dq:=Zax b0;have a2:(Dq.map Value.string)[D]? =some (.string s):=xF;have a6:=Zaa a2;clear b0 a2;go_wp2_with fail
  refine Z4s ?_;intro ee e5 sx nn;refine J7 [(1,.inl none),(2,.inl (some 0)),(3,.inl none),(6,.inl none),(7,.inl (some 0)),(8,.inl (some 0)),(9,.inl none),(0,.inr [0,1]),(4,.inl none),(5,.inl (some 1)),(10,.inr [0,1]),(11,.inl none),(12,.inr [])]
   (fun k W=>(k=0->W.rangeAt w 0 [.int .u8 il,.int .u8 N,.slice de x.Ay db,.slice ch x.Bw cg]/\W.rangeAt b4 0 [e1,.float .f64 kg,dy,gq,.slice ie dh ld])/\(k=1->W.rangeAt (bd.drewN 1).heap.size 0 (Dq.map Value.string))) [0] yG yG (fun k a7=>sY) ?_
  refine Z3s ?_;generalize bd.drewN 1=A at e5 sx nn|-;have a1:=Zaa sx;clear ee sx g0 g1 g2 s0 s1 s2 s3 ao f0 f1 f2 ai ae aa ak;refine Z2m ?_;refine Av (.int .u8 N) yI (fun w' ab=>?_) (fun K J=>?_)
  ·have bh:=ab.1 rfl |>.1 1 _ rfl
   exact Z15
  refine Z42 ?_;clear J K;refine Z01 ?_;refine Av (.slice de x.Ay db) yI (fun w' ab=>?_) (fun K J=>?_)
  ·have bh:=ab.1 rfl |>.1 2 _ rfl
   exact Z15
  refine Z42 ?_;clear J K;refine Av (.agg #[e1,.float .f64 kg,dy,gq,.slice ie dh ld]) yI (fun w' ab=>?_) (fun K J=>?_)
  ·have aq:=ab.1 rfl |>.2 0 _ rfl
   exact Z1E
  refine Z42 ?_;clear J K;refine Z2m ?_;refine Cy rfl (fun K J=>?_);go_wp2_with fail
  refine(O0 _).mono ?_;rintro e w' ⟨rfl,rfl⟩;go_wp2_with fail
  have G:(A.alloc (.cells #[Value.string ⟨#[115]⟩,.string ⟨#[116]⟩] 9)).rangeAt A 0 (Dq.map Value.string):=Ae A _ 9;have H:Below A A (A.alloc (.cells #[Value.string ⟨#[115]⟩,.string ⟨#[116]⟩] 9)):=Af _;have F:(A.alloc (.cells #[Value.string ⟨#[115]⟩,.string ⟨#[116]⟩] 9)).rangeAt w 0 [.int .u8 il,.int .u8 N,.slice de x.Ay db,.slice ch x.Bw cg]/\(A.alloc (.cells #[Value.string ⟨#[115]⟩,.string ⟨#[116]⟩] 9)).rangeAt b4 0 [e1,.float .f64 kg,dy,gq,.slice ie dh ld]:=⟨Aa a1.out.1 H yE,Aa a1.out.2 H yE⟩;refine J _ _ (Js ⟨fun _=>F,fun _=>G⟩ ⟨fun _=>F,fun _=>G⟩) ?_;have a4:=Zaa G;clear J K G;have an:(A.alloc (.cells #[Value.string ⟨#[115]⟩,.string ⟨#[116]⟩] 9)).heap.size=A.heap.size+1:=yF;generalize A.alloc (.cells #[Value.string ⟨#[115]⟩,.string ⟨#[116]⟩] 9)=T at H an F a4|-;have aj:=Zaa F;clear F;refine Z2m ?_;refine Av (.string s) yI (fun w' ab=>?_) (fun K J=>?_)
  ·have bh:=ab.2 rfl D _ a6.out
   rw[nn]at bh;try rw[aJ]at bh
   exact Z15
  refine Z42 ?_;clear J K;have M:=e5.trans (H.mono yE);have hC:=Ob x.Ay _ T n yE (Al.Ab Nb.Ab |>.below bt6.out (M.mono yE)) (.node ⟨e1,kg,dy,gq⟩ dh) _ Cj hm rz (fun b=>w+2<=b/\b<bd) (fun b U=>yE) (Tree.A6.below bol.out M (fun b U=>U.2));have c3:=Zaa hC;clear hC;refine Cy rfl (fun K J=>?_);go_wp2_with fail
  refine Z54 ?_;rintro e b3 ⟨bw,v,rfl,baz,fR,bj⟩;go_wp2_with fail
  have ad:b3.rangeAt w 0 [.int .u8 il,.int .u8 N,.slice de x.Ay db,.slice ch x.Bw cg]/\b3.rangeAt b4 0 [e1,.float .f64 kg,dy,gq,.slice ie dh ld]:=⟨Aa aj.out.1 bj yE,Aa aj.out.2 bj yE⟩;have ac:=Aa a4.out bj yE;refine J _ _ (Js ⟨fun _=>ad,fun _=>ac⟩ ⟨fun _=>ad,fun _=>ac⟩) ?_;clear J K ad ac;have bb0:=baz;obtain⟨bn,pt,rfl,-⟩:=baz;have l9:=bj.size;have ck:=Zaa (Dp ((bj.block (w+1) yE).trans ((M.block (w+1) yE).trans bco.out)));have x6:C2 b3 (fun b=>w+2<=b/\b<b3) ⟨2,s,bw,Dd⟩ [.int .u8 2,.string s,.slice bn bw pt,zJ,zD,zC,zE,zH]:=⟨.slice bn bw pt,_,rfl,Al.Ab Bz.Ab |>.wide bb0 (fun b U=>by have:=U.2;rcases U.1 with h | h<;>omega),Tree.A6.shut (E:=Df.cells) (l:=⟨0,0,⟨#[]⟩,0⟩) (Zap _) (.inl rfl)⟩;have bcv:=Zaa x6;have bie:=Zaa fR;have eS:=Zaa (M.trans (bj.mono yE));clear bb0 x6 fR;refine Z2m ?_;refine Cy rfl (fun K J=>?_);refine Zil rfl 120 _ _ rfl _ _ _ rfl rfl ?_ ?_ ?_ ?_
  ·exact ck.out
  ·first | kernel_rfl | exact Xr
  ·simp[Value.oneCell']
  refine Z4P ?_;clear J K;refine C7 ?_;go_wp2_with fail
  have nk:=zc.out.trans (eS.out.mono yE);have cm:=Ao b3 (w+1) [.int .u8 2,.string s,.slice bn bw pt,zJ,zD,zC,zE,zH] 0;have gp:=Zar b3 (w+1) 0 [.int .u8 2,.string s,.slice bn bw pt,zJ,zD,zC,zE,zH] ck.out;generalize b3.setCells (w+1) 0 [.int .u8 2,.string s,.slice bn bw pt,.int .u8 0,.float .f64 0,.string ⟨#[]⟩,.int .i64 0,.slice none 0 0]=lf at cm gp|-;have eL:=cm.size;have fV:=C2.Ab.block bcv.out (fun b U=>cm.block b U.2 yJ);refine Zho (Aq rfl _ _ _ _ _ rfl gp yG yG) rfl ⟨_,[.int .u8 2,.string s,.slice bn bw pt,zJ,zD,zC,zE,zH],rfl,C2.Ab.wide fV (fun b U=>⟨yE,yE⟩),⟨_,q9.out.1,q9.out.2,.inr (.inl ⟨rfl,am,rfl,bie.out⟩)⟩,nk.grown cm nk.size (fun r e=>yM)⟩
 skip
 obtain⟨D,bbk,ag⟩:∃j:Nat,(N:Int)%4=(j:Int)/\j<4:=⟨N%4,yE,yE⟩
 have aY:(D:Int) <4:=yE
 have aR:(N:Int).tmod 4=(D:Int):=uU
 obtain⟨s,b0⟩:∃s,Cv[D]? =some s:=⟨_,Zam (show D<Cv from ag)⟩
 have am:s∈Cv:=Zax b0
 have a2:(Cv.map Value.string)[D]? =some (.string s):=xF
 have a6:=Zaa a2
 clear b0 a2
 go_wp2_with fail
 refine Z4s ?_
 intro ee e5 sx nn
 refine J7 [(1,.inl none),(2,.inl (some 0)),(3,.inl none),(6,.inl (some 0)),(0,.inr [0,1]),(4,.inl none),(5,.inl (some 1)),(7,.inl none),(8,.inr [])]
  (fun k W=>(k=0->W.rangeAt w 0 [.int .u8 il,.int .u8 N,.slice de x.Ay db,.slice ch x.Bw cg]/\W.rangeAt b4 0 [e1,.float .f64 kg,dy,gq,.slice ie dh ld])/\(k=1->W.rangeAt (bd.drewN 1).heap.size 0 (Cv.map Value.string))) [0] yG yG (fun k a7=>sY) ?_
 refine Z3s ?_
 generalize bd.drewN 1=A at e5 sx nn|-
 have a1:=Zaa sx
 clear ee sx g0 g1 g2 s0 s1 s2 s3 ao f0 f1 f2 ai ae aa ak
 refine Z02 ?_
 refine Av (.int .u8 N) yI (fun w' ab=>?_) (fun K J=>?_)
 ·have bh:=ab.1 rfl |>.1 1 _ rfl
  exact Z15
 refine Z2n ?_
 clear J K
 refine Z02 ?_
 refine Av (.agg #[e1,.float .f64 kg,dy,gq,.slice ie dh ld]) yI (fun w' ab=>?_) (fun K J=>?_)
 ·have aq:=ab.1 rfl |>.2 0 _ rfl
  exact Z1E
 refine Z2n ?_
 clear J K
 refine Cy rfl (fun K J=>?_)
 go_wp2_with fail
 refine(Pr _).mono ?_
 rintro e w' ⟨rfl,rfl⟩
 go_wp2_with fail
 have G:(A.alloc (.cells #[Value.string nX,nY,nZ,nL] 9)).rangeAt A 0 (Cv.map Value.string):=Ae A _ 9
 have H:Below A A (A.alloc (.cells #[Value.string nX,nY,nZ,nL] 9)):=Af _
 have F:(A.alloc (.cells #[Value.string nX,nY,nZ,nL] 9)).rangeAt w 0 [.int .u8 il,.int .u8 N,.slice de x.Ay db,.slice ch x.Bw cg]/\(A.alloc (.cells #[Value.string nX,nY,nZ,nL] 9)).rangeAt b4 0 [e1,.float .f64 kg,dy,gq,.slice ie dh ld]:=⟨Aa a1.out.1 H yE,Aa a1.out.2 H yE⟩
 refine J _ _ (Js ⟨fun _=>F,fun _=>G⟩ ⟨fun _=>F,fun _=>G⟩) ?_
 have a4:=Zaa G
 clear J K G
 have an:(A.alloc (.cells #[Value.string nX,nY,nZ,nL] 9)).heap.size=A.heap.size+1:=yF
 generalize A.alloc (.cells #[Value.string nX,nY,nZ,nL] 9)=T at H an F a4|-
 have aj:=Zaa F
 clear F
 refine Z02 ?_
 refine Av (.string s) yI (fun w' ab=>?_) (fun K J=>?_)
 ·have bh:=ab.2 rfl D _ a6.out
  rw[nn]at bh;try rw[aJ]at bh
  exact Z15
 refine Z2n ?_
 clear J K
 refine Z02 ?_
 have M:=e5.trans (H.mono yE)
 have ck:=Zaa (Dp ((M.block (w+1) yE).trans bco.out))
 have x6:C2 T (fun b=>w+2<=b/\b<T) ⟨3,s,[],.node ⟨e1,kg,dy,gq⟩ dh⟩ [.int .u8 3,.string s,zH,e1,.float .f64 kg,dy,gq,.slice ie dh ld]:=⟨.slice none 0 0,[e1,.float .f64 kg,dy,gq,.slice ie dh ld],rfl,⟨none,0,rfl,Zab _,.inl rfl⟩,Tree.A6.mono (Tree.A6.below bol.out M (fun b U=>U.2)) (fun b U=>yE)⟩
 have bcv:=Zaa x6
 have eS:=Zaa M
 clear x6
 refine Cy rfl (fun K J=>?_)
 refine Zil rfl 120 _ _ rfl _ _ _ rfl rfl ?_ ?_ ?_ ?_
 ·exact ck.out
 ·first | kernel_rfl | exact Xr
 ·simp[Value.oneCell']
 refine Z4a ?_
 refine J _ _ yF ?_
 clear J K
 refine C7 ?_
 go_wp2_with fail
 have nk:=zc.out.trans (eS.out.mono yE)
 have cm:=Ao T (w+1) [.int .u8 3,.string s,zH,e1,.float .f64 kg,dy,gq,.slice ie dh ld] 0
 have gp:=Zar T (w+1) 0 [.int .u8 3,.string s,zH,e1,.float .f64 kg,dy,gq,.slice ie dh ld] ck.out
 generalize T.setCells (w+1) 0 [.int .u8 3,.string s,.slice none 0 0,.int .u8 e1.toNat,.float .f64 kg,.string dy,.int .i64 gq,.slice ie dh ld]=lf at cm gp|-
 have eL:=cm.size
 have fV:=C2.Ab.block bcv.out (fun b U=>cm.block b U.2 yJ)
 refine Zho (Aq rfl _ _ _ _ _ rfl gp yG yG) rfl ⟨_,[.int .u8 3,.string s,zH,e1,.float .f64 kg,dy,gq,.slice ie dh ld],rfl,C2.Ab.wide fV (fun b U=>⟨yE,yE⟩),⟨_,q9.out.1,q9.out.2,.inr (.inr ⟨rfl,am,rfl,rfl⟩)⟩,nk.grown cm nk.size (fun r e=>yM)⟩
end
end Go.Proofs.YtafmoofknjncpaaGreatDoor
