/- A part of the proof that ModelWrong holds: its theorems stand as they are typed. -/
import Derived.Deep.CutBlock
import Derived.Test.YtafmoofknjncpaaGreatDoorU
import Derived.Test.YtafmoofknjncpaaGreatDoorV
set_option linter.all false
set_option maxRecDepth 100000
set_option maxHeartbeats 8000000
namespace Go.Proofs.YtafmoofknjncpaaGreatDoor
open Tryz Go.RowKit Go.Shelf
structure Acl where
 (kind n Az A3:UInt8) (Ea:List Sy) (Aw:List Ahq)
def Xu (_:zN) (_:zT) (x:Sy) (cs:zP):Prop:=cs=x.cells
theorem Xu.Ab:Cp Xu:=fun _ _ _ _ _ _ _ _ h=>h
def Iw (w:zN) (S:zT) (x:Acl) (cs:zP):Prop:=∃A D,cs=[.int .u8 x.kind.toNat,.int .u8 x.n.toNat,.int .u8 x.Az.toNat,.int .u8 x.A3.toNat,A,D]/\Al Xu 3 w S x.Ea A/\Al Mu 4 w S x.Aw D
theorem Iw.Ab:Cp Iw:=by
 rintro w w' S S' p cs A hm ⟨v,u,rfl,h,k⟩;exact⟨v,u,rfl,Al.Ab Xu.Ab _ _ _ _ _ _ A hm h,Al.Ab Mu.Ab _ _ _ _ _ _ A hm k⟩
theorem Mr {s:zS} (h:s∈N6):1<=s.size/\s.size<=64:=by
 simp only[N6,Zbc,Zbe,Zic]at h;rcases h with rfl | rfl | rfl | rfl | rfl | rfl<;>exact⟨yH,yH⟩
theorem Sk (W:zN):(Instr.buildSlice 85 6 #[(0,.string ⟨#[97]⟩),(1,.string ⟨#[98]⟩),(2,.string ⟨#[97,98]⟩),(3,.string ⟨#[98,97]⟩),(4,.string ⟨#[97,97,98]⟩),(5,.string ⟨#[99]⟩)]).run prog W=.ok (.slice (some ⟨W,0,none⟩) 6 6) (W.alloc (.cells #[Value.string ⟨#[97]⟩,.string ⟨#[98]⟩,.string ⟨#[97,98]⟩,.string ⟨#[98,97]⟩,.string ⟨#[97,97,98]⟩,.string ⟨#[99]⟩] 9)):=
 U8 6 _ _ yH yH yG W
theorem Akm (st sp:Bool) (a b c d e f g h:Value):prog.built 45 [(0,.bool st),(1,.bool sp),(2,.agg #[a,b,c,d,e,f,g,h])]=some #[.bool st,.bool sp,a,b,c,d,e,f,g,h]:=by kernel_rfl
theorem Akt (x:Acl) (Ac:Nat) (er:1<=Ac) (ew:Ac<=4) (cs:zP) (w:zN) (n:Nat) (bx:n<=w) (a1:Iw w (fun b=>b<n) x cs):
  Calls prog 23 #[.agg cs.toArray,Ac] w fun e w'=>∃r c1,e=.returned (.agg c1.toArray)/\Bj w' (fun b=>w<=b/\b<w') r c1/\Ti Ac r/\Below w w w':=by
 obtain⟨eu,ev,rfl,bH,hA⟩:=a1
 have hA0:=hA
 obtain⟨gz,ac,rfl,e3,bv⟩:=hA
 obtain⟨fp,rc,rfl,eo,br⟩:=bH.flat Sy.cells (fun _ _ h=>h) (fun _=>rfl)
 have J:=x.kind.toNat_lt
 have dl:=x.n.toNat_lt
 have cz:=x.Az.toNat_lt
 have aL:=x.A3.toNat_lt
 generalize x.kind.toNat=il at J|-
 generalize x.n.toNat=te at dl|-
 generalize x.Az.toNat=zj at cz|-
 generalize x.A3.toNat=Gg at aL|-
 obtain⟨ag,cr⟩:=zL (((w.alloc (.cells #[.int .u8 il,.int .u8 te,.int .u8 zj,.int .u8 Gg,.slice fp x.Ea rc,.slice gz x.Aw ac] 91)).alloc (.cells zU 48)).alloc (.cells zU 48))
 have h2:=Hh (w.alloc (.cells #[.int .u8 il,.int .u8 te,.int .u8 zj,.int .u8 Gg,.slice fp x.Ea rc,.slice gz x.Aw ac] 91)) yB yB 48 48
 have dj:ag.heap.size=w+3:=xK
 have af:Below w w ag:=rC
 have cc:ag.heap[w.heap.size]? =some (.cells #[.int .u8 il,.int .u8 te,.int .u8 zj,.int .u8 Gg,.slice fp x.Ea rc,.slice gz x.Aw ac] 91 (0,0)):=by
  rw[<-cr];refine((Af (w:=(w.alloc _).alloc _) _).block _ yJ).trans (((Af (w:=w.alloc _) _).block _ yF).trans (Zhe w _))
 have hA3:ag.heap[w.heap.size+1]? =some (.cells zU 48 (0,0)):=by
  rw[<-cr];refine((Af (w:=(w.alloc _).alloc _) _).block _ yF).trans ?_;have:=Zhe (w.alloc (.cells #[.int .u8 il,.int .u8 te,.int .u8 zj,.int .u8 Gg,.slice fp x.Ea rc,.slice gz x.Aw ac] 91)) (.cells zU 48);exact Z1z
 have co:ag.heap[w.heap.size+1+1]? =some (.cells zU 48 (0,0)):=by
  rw[<-cr];have:=Zhe ((w.alloc (.cells #[.int .u8 il,.int .u8 te,.int .u8 zj,.int .u8 Gg,.slice fp x.Ea rc,.slice gz x.Aw ac] 91)).alloc (.cells zU 48)) (.cells zU 48);rwa[Zaq,Zaq]at this
 have az:=Zaa cc
 have b5:=Zaa hA3
 have am:=Zaa co
 have dI:=Zaa bv
 have cA:=Zaa br
 have bA:=Zaa cr
 clear h2 cc hA3 co bH bv hA0 br cr
 go_enter func23,ntmps23
 go_upto_block 0 with fail
 rw[bA.out]
 clear bA
 go_cut [6] (fun dP ay=>∃(k:UInt8) (st sp:Bool) (G:UInt8) (v0 v1 v2 v3:UInt64) (H M:Int) (F:List Rx) (a2:zO) (a3:Nat) (text:zS) (Az Cj:Int),
  dP=.int .i64 Cj/\ay.heap[w.heap.size+1+1]? =some (.cells #[k,st,sp,G,v0,v1,v2,v3,H,M,.slice a2 F a3,text,Az,zH,zC,zE] 48 (0,0))/\B2 ay (fun b=>w+3<=b/\b<ay) (.node ⟨G,v0,v1,v2,v3,H,M⟩ F) [G,v0,v1,v2,v3,H,M,.slice a2 F a3]/\Io ⟨k,st,sp,(.node ⟨G,v0,v1,v2,v3,H,M⟩ F),text,Az,[],Fw,0⟩/\(k=1->F3 (.node ⟨G,v0,v1,v2,v3,H,M⟩ F))/\(Tree.node ⟨G,v0,v1,v2,v3,H,M⟩ F:Rx).size<=26/\Cj=Ei ⟨k,st,sp,(.node ⟨G,v0,v1,v2,v3,H,M⟩ F),text,Az,[],Fw,0⟩/\
  ay.heap[w.heap.size]? =some (.cells #[.int .u8 il,.int .u8 te,.int .u8 zj,.int .u8 Gg,.slice fp x.Ea rc,.slice gz x.Aw ac] 91 (0,0))/\ay.heap[w.heap.size+1]? =some (.cells zU 48 (0,0))/\Below w w ay/\w.heap.size+3<=ay)
 case first=>
  have dB:=A4 am.out;have eK:=A4 az.out;have ab:=dB 0 _ rfl;have aI:ag.frozen? ⟨w+1+1,0,none⟩=false:=Zhv ag (w+1+1) 0 _ 48 am.out;have bL:=eK 1 _ rfl;have bI:=eK 2 _ rfl;have ct:=eK 4 _ rfl;simp only[Zac]at ab bL bI ct;go_upto_if 21 with fail
  go_cut [21] (fun v ay=>v=.bool (decide ((il:Int)%8<3))/\ag=ay)
  case first=>
   have ei:(il:Int)%8<8:=yE;rcases(show(il:Int)%8=0\/(il:Int)%8=1\/(il:Int)%8=2\/3<=(il:Int)%8 from yE)with h8 | h8 | h8 | h8
   ·have bn:((il:Int)%8==0)=true:=by rw[h8];rfl
    have b2:decide ((il:Int)%8<3)=true:=Zht yE;clear h8;go_wp2_with fail
    go_meet
    case rel=>exact⟨by simp[*],rfl⟩
   ·have bn:((il:Int)%8==0)=false:=by rw[h8];rfl
    have cb:((il:Int)%8==1)=true:=by rw[h8];rfl
    have b2:decide ((il:Int)%8<3)=true:=Zht yE;clear h8;go_wp2_with fail
    go_meet
    case rel=>exact⟨by simp[*],rfl⟩
   ·have bn:((il:Int)%8==0)=false:=by rw[h8];rfl
    have cb:((il:Int)%8==1)=false:=by rw[h8];rfl
    have dL:((il:Int)%8==2)=true:=by rw[h8];rfl
    have b2:decide ((il:Int)%8<3)=true:=Zht yE;clear h8;go_wp2_with fail
    go_meet
    case rel=>exact⟨by simp[*],rfl⟩
   have bn:((il:Int)%8==0)=false:=by rw[Zaz];omega
   have cb:((il:Int)%8==1)=false:=yZ;have dL:((il:Int)%8==2)=false:=yZ;go_wp2_with fail
   go_meet
   case rel=>exact⟨by rw[Zhs yE],rfl⟩
  case rest=>
   obtain⟨rfl,rfl⟩:=hcut;by_cases h3:(il:Int)%8<3
   ·have ao:decide ((il:Int)%8<3)=true:=Zht h3
    rw[ao];clear ao h3
    skip
    obtain⟨st,ek⟩:∃st:Bool,((te:Int).tmod 5==4)=st:=⟨_,rfl⟩;obtain⟨sp,e1⟩:∃sp:Bool,((te:Int).tmod 7==6)=sp:=⟨_,rfl⟩;have ix:=Zhy ag (w+1+1) 0 _ 48 (.int .u8 1) am.out;have bu:=As ag (w+1+1) 0 (.int .u8 1);obtain⟨T,dK⟩:=zL (ag.setCell ⟨w+1+1,0,none⟩ (.int .u8 1));rw[dK]at ix bu;have bm:=(bu.block w yE yJ).trans az.out;have hA4:=(bu.block (w+1) yE yF).trans b5.out;have c2:Below w w T:=af.grown bu af.size (fun r e=>yM);have dQ:w.heap.size+3<=T.heap.size:=uF;have ee:(T.drewN 1).heap=T.heap:=Zhg _ _;have al:T.grownBy (T.drewN 1) none:=B5 _ 1 none;have E2:(T.drewN 1).rangeAt w 0 [.int .u8 il,.int .u8 te,.int .u8 zj,.int .u8 Gg,.slice fp x.Ea rc,.slice gz x.Aw ac]:=Ag (A4 bm) yO;have ch:=(al.block w yE yF).trans bm;have hA5:=(al.block (w+1) yE yF).trans hA4;have aq:=(al.block (w+1+1) yE yF).trans ix;have c9:Below w w (T.drewN 1):=c2.grown al c2.size yF;have j4:w.heap.size+3<=(T.drewN 1).heap.size:=by rw[ee];exact dQ
    obtain⟨L,c5,bf,cS,ba⟩:∃L:Nat,min (x.Ea.length:Int) 25=(L:Int)/\L<=x.Ea/\L<=25/\(x.Ea.take 25).length=L:=⟨min x.Ea.length 25,yE,yE,yE,wQ⟩;have bE:=Zaa ch;have bD:=Zaa hA5;have aU:=Zaa aq;clear ix bm hA4 ch hA5 aq;go_wp2_with fail
    refine C1 [(0,.inl none),(1,.inl (some 0)),(2,.inl none),(3,.inl none),(4,.inl none),(5,.inl (some 0)),(6,.inl none),(7,.inl none),(8,.inl none),(9,.inl (some 0)),(10,.inr [0]),(11,.inl none),(12,.inl none),(13,.inr [])]
     (fun _ W=>W.rangeAt w 0 [.int .u8 il,.int .u8 te,.int .u8 zj,.int .u8 Gg,.slice fp x.Ea rc,.slice gz x.Aw ac]) yG yG (fun _=>E2) ?_
    refine Z3s ?_;generalize T.drewN 1=a0 at E2 c9 j4 bE bD aU|-;have hC:=Agv (x.Ea.take 25) L x.Ea c5 ba cS fp rc yE a0 n yE ((cA.out 25).below (c9.mono bx) (Zab _));have c3:=Zaa hC;clear hC ee al ba;refine Z2m ?_;refine Av (.int .u8 te) yI (fun w' Y=>?_) (fun K J=>?_)
    ·have bh:=Y 1 _ rfl
     exact Z15
    refine Z42 ?_;clear J K;refine Z00 ?_;refine Av (.int .u8 te) yI (fun w' Y=>?_) (fun K J=>?_)
    ·have bh:=Y 1 _ rfl
     exact Z15
    refine Z42 ?_;clear J K;refine Z00 ?_;refine Av (.slice fp x.Ea rc) yI (fun w' Y=>?_) (fun K J=>?_)
    ·have bh:=Y 4 _ rfl
     exact Z15
    refine Z42 ?_;clear J K;refine Cy rfl (fun K J=>?_);go_wp2_with fail
    refine Z54 ?_;rintro e O ⟨t,cs,rfl,ak,ap,bW,D⟩;obtain⟨⟨G,v0,v1,v2,v3,H,M⟩,F⟩:=t;obtain⟨a2,a3,bl⟩:=C3 ak;obtain⟨ca,aD⟩:∃o:Value,o=.int .u8 G.toNat:=⟨_,rfl⟩;obtain⟨cg,aE⟩:∃o:Value,o=.int .u64 v0.toNat:=⟨_,rfl⟩;obtain⟨c8,aW⟩:∃o:Value,o=.int .u64 v1.toNat:=⟨_,rfl⟩;obtain⟨cm,aR⟩:∃o:Value,o=.int .u64 v2.toNat:=⟨_,rfl⟩;obtain⟨bO,aA⟩:∃o:Value,o=.int .u64 v3.toNat:=⟨_,rfl⟩;obtain⟨ce,aF⟩:∃o:Value,o=.int .i64 H:=⟨_,rfl⟩;obtain⟨bZ,aG⟩:∃o:Value,o=.int .i64 M:=⟨_,rfl⟩;obtain⟨c0,aH⟩:∃o:Value,o=.slice a2 F a3:=⟨_,rfl⟩;have dO:cs=[ca,cg,c8,cm,bO,ce,bZ,c0]:=by rw[bl,aD,aE,aW,aR,aA,aF,aG,aH]
    have cV:=Zaa aD;have cK:=Zaa aE;have cC:=Zaa aW;have cL:=Zaa aR;have cW:=Zaa aA;have cX:=Zaa aF;have cM:=Zaa aG;have cY:=Zaa aH;rw[bl]at ak;clear bl aD aE aW aR aA aF aG aH;subst dO;go_wp2_with fail
    refine J _ _ (Bg (Aa E2 D yE)) ?_;clear J K;have b7:=D.size;have a6:=(D.block (w+1+1) yE).trans aU.out;have aO:O.there (w+1+1) 1 10:=fun j dW=>by
     have:=Dp a6 (1+j) yJ;rwa[Zac]at this
    have b3:=Zaa aO;have cO:=Zaa ak;have df:=Zaa D;clear a6 aO ak E2 D;refine Ain 45 _ _ rfl rfl (by simp only[Zev,Zbi,Zeu];exact Akm st sp ca cg c8 cm bO ce bZ c0) (fun K J=>?_);refine J _ ?_;clear J K;refine Z2m ?_;have aD:=cV.out;have aE:=cK.out;have aW:=cC.out;have aR:=cL.out;have aA:=cW.out;have aF:=cX.out;have aG:=cM.out;have aH:=cY.out;subst aD;subst aE;subst aW;subst aR;subst aA;subst aF;subst aG;subst aH;refine Cy rfl (fun K J=>?_);refine Zil rfl 45 _ _ rfl _ _ _ rfl rfl ?_ ?_ ?_ ?_
    ·exact b3.out
    ·kernel_rfl
    ·simp[Value.oneCell']
    refine Z4P ?_;clear J K;have D:=df.out;have ak:=cO.out;have cp:=(D.block w yE).trans bE.out;have hA6:=(D.block (w+1) yE).trans bD.out;have a6:=(D.block (w+1+1) yE).trans aU.out;have bG:Below w w O:=c9.trans (D.mono yE);obtain⟨bR,h71,h72⟩:=Oe (w+1+1) 48 [st,sp,G,v0,v1,v2,v3,H,M,.slice a2 F a3] 1 O _ a6;have h73:bR=#[.int .u8 1,.bool st,.bool sp,.int .u8 G.toNat,.int .u64 v0.toNat,.int .u64 v1.toNat,.int .u64 v2.toNat,.int .u64 v3.toNat,.int .i64 H,.int .i64 M,.slice a2 F a3,.string ⟨#[]⟩,.int .i64 0,.slice none 0 0,.string ⟨#[]⟩,.int .i64 0]:=by
     apply Array.toList_inj.1;rw[h72];simp[Qq]
    rw[h73]at h71;have au:=Ao O (w+1+1) [st,sp,G,v0,v1,v2,v3,H,M,.slice a2 F a3] 1;have bJ:=(au.block w yE yJ).trans cp;have hA7:=(au.block (w+1) yE yF).trans hA6;have b4:=bG.grown au bG.size (fun r e=>yM);have bF:=Tree.A6.block ak (fun b U=>au.block b U.2 yJ);have cl:=au.size;have bQ:=Zaa bJ;have bP:=Zaa hA7;have aV:=Zaa h71;have bk:=Zaa bF;have bj:=Zaa ap;have b6:=Zaa bW;clear cp hA6 a6 h71 h72 h73 bJ hA7 bF ak ap bW bR;generalize O.setCells (w+1+1) 1 [.bool st,.bool sp,.int .u8 G.toNat,.int .u64 v0.toNat,.int .u64 v1.toNat,.int .u64 v2.toNat,.int .u64 v3.toNat,.int .i64 H,.int .i64 M,.slice a2 F a3]=bs at au b4 cl bQ bP aV bk|-;have ad:=A4 aV.out;have dk:=ad 3 _ rfl;have dC:=ad 4 _ rfl;have cE:=ad 5 _ rfl;have dD:=ad 6 _ rfl;have dn:=ad 7 _ rfl;have ds:=ad 8 _ rfl;have dt:=ad 9 _ rfl;have dd:=ad 10 _ rfl;simp only[Zac]at dk dC cE dD dn ds dt dd;have bV:Bo bs bs (.node ⟨G,v0,v1,v2,v3,H,M⟩ F) [G,v0,v1,v2,v3,H,M,.slice a2 F a3]:=Tree.A6.mono bk.out (fun b U=>yE);have c4:=Ag7 (.node ⟨G,v0,v1,v2,v3,H,M⟩ F) _ bs bs (Zab _) (by have:=b6.out;omega) bV;have cF:=Zaa c4;clear ad bV c4;refine C7 ?_;go_wp2_with fail
    refine cF.out.mono ?_;rintro e eh ⟨rfl,ar⟩;have dU:=ar.size;go_wp2_with fail
    go_meet
    case rel=>exact⟨1,st,sp,G,v0,v1,v2,v3,H,M,F,a2,a3,⟨#[]⟩,0,_,rfl,(ar.block _ yE).trans aV.out,Tree.A6.mono (Tree.A6.below bk.out ar (fun b U=>yE)) (fun b U=>⟨yE,yE⟩),.inl ⟨rfl,rfl,rfl⟩,fun _=>bj.out,b6.out,rfl,(ar.block _ yE).trans bQ.out,(ar.block _ yE).trans bP.out,b4.trans (ar.mono yE),yE⟩
   have ao:decide ((il:Int)%8<3)=false:=Zhs h3;rw[ao];go_upto_if 43 with fail
   go_cut [43] (fun v ay=>v=.bool (decide ((il:Int)%8<5))/\ag=ay)
   case first=>
    rcases(show(il:Int)%8=3\/(il:Int)%8=4\/5<=(il:Int)%8 from yE)with h8 | h8 | h8
    ·have bM:((il:Int)%8==3)=true:=by rw[h8];rfl
     have b2:decide ((il:Int)%8<5)=true:=Zht yE;clear h8;go_wp2_with fail
     go_meet
     case rel=>exact⟨by simp[*],rfl⟩
    ·have bM:((il:Int)%8==3)=false:=by rw[h8];rfl
     have bq:((il:Int)%8==4)=true:=by rw[h8];rfl
     have b2:decide ((il:Int)%8<5)=true:=Zht yE;clear h8;go_wp2_with fail
     go_meet
     case rel=>exact⟨by simp[*],rfl⟩
    have bM:((il:Int)%8==3)=false:=by rw[Zaz];omega
    have bq:((il:Int)%8==4)=false:=yZ;go_wp2_with fail
    go_meet
    case rel=>exact⟨by rw[Zhs yE],rfl⟩
   case rest=>
    obtain⟨rfl,rfl⟩:=hcut;by_cases h5:(il:Int)%8<5
    ·have aC:decide ((il:Int)%8<5)=true:=Zht h5
     rw[aC];clear aC ao
     skip
     obtain⟨q,bd,bo⟩:∃q:Nat,(te:Int).tmod 6=(q:Int)/\q<6:=⟨te%6,wN,yE⟩;have cv:(q:Int) <6:=yE;obtain⟨s,b0⟩:∃s,N6[q]? =some s:=⟨_,Zam (show q<N6 from bo)⟩;have aQ:s∈N6:=Zax b0;have aB:([Value.string ⟨#[97]⟩,.string ⟨#[98]⟩,.string ⟨#[97,98]⟩,.string ⟨#[98,97]⟩,.string ⟨#[97,97,98]⟩,.string ⟨#[99]⟩]:List Value)[q]? =some (.string s):=by
      have h1:(N6.map Value.string)[q]? =some (.string s):=xF;exact h1
     have av:=Zaa aQ;have aY:=Zaa aB;clear b0 aQ aB;refine Z4T ?_;intro ee E2;have bg:(ag.drewN 1).heap[w.heap.size]? =some (.cells #[.int .u8 il,.int .u8 te,.int .u8 zj,.int .u8 Gg,.slice fp x.Ea rc,.slice gz x.Aw ac] 91 (0,0)):=by rw[ee];exact az.out
     have hA0:(ag.drewN 1).heap[w.heap.size+1]? =some (.cells zU 48 (0,0)):=by rw[ee];exact b5.out
     have ah:(ag.drewN 1).heap[w.heap.size+1+1]? =some (.cells zU 48 (0,0)):=by rw[ee];exact am.out
     have aJ:Below w w (ag.drewN 1):=af.grown (B5 _ 1 none) af.size yF;have gh:(ag.drewN 1).heap.size=w.heap.size+3:=by rw[ee];exact dj
     clear ab aI bL bI ct ee;go_wp2_with fail
     refine Tq [(1,.inl none),(2,.inl (some 0)),(3,.inl none),(6,.inl none)] 0 ([1],[0,1]) [(4,.inl none),(5,.inl (some 1)),(7,.inr ([],[0,1])),(8,.inl none),(9,.inr ([],[]))] 7 ([],[0,1]) [(0,.inr ([1],[0,1])),(4,.inl none),(5,.inl (some 1)),(8,.inl none),(9,.inr ([],[]))]
      (fun k W=>match k with | 0=>W.rangeAt w 0 [.int .u8 il,.int .u8 te,.int .u8 zj,.int .u8 Gg,.slice fp x.Ea rc,.slice gz x.Aw ac] | _=>w.heap.size+3<W/\W.rangeAt (w+3) q [.string s]) [0] yG yG (fun k aX=>by simp only[Zdn,List.contains_nil,Zcm,Zhn]at aX;subst aX;exact E2) ?_
     refine Z3s ?_;generalize ag.drewN 1=a0 at E2 bg hA0 ah aJ gh|-;refine Z3Z ?_;refine Ba (.int .u8 te) yI (fun w' Y=>?_) (fun K J=>?_)
     ·have bh:=Y 1 _ rfl
      exact Z15
     refine Z2n ?_;clear J K;refine Z03 ?_;refine B1 ⟨?_,?_⟩
     ·obtain⟨O,a5⟩:=zL (a0.alloc (.cells #[Value.string ⟨#[97]⟩,.string ⟨#[98]⟩,.string ⟨#[97,98]⟩,.string ⟨#[98,97]⟩,.string ⟨#[97,97,98]⟩,.string ⟨#[99]⟩] 9))
      have D:Below a0 a0 O:=by rw[<-a5];exact Af _
      have an:O.rangeAt a0 0 [Value.string ⟨#[97]⟩,.string ⟨#[98]⟩,.string ⟨#[97,98]⟩,.string ⟨#[98,97]⟩,.string ⟨#[97,97,98]⟩,.string ⟨#[99]⟩]:=by rw[<-a5];exact Ae _ _ _
      have b7:O.heap.size=a0+1:=by rw[<-a5];simp
      refine M5 (w':=O) rfl (by rw[<-a5];exact O4 _ _ _ _ rfl (Sk _) (by simp[Act.eval])) (Bg ⟨yE,fun j v aj=>by
       rcases j with _ | j
       ·have h1:=an q _ aY.out
        exact Z2h
       simp at aj⟩) (Js (fun h=>Aa h D yE) (fun h=>absurd h.1 yE)) ?_
      clear a5;refine Z04 ?_;refine Ba (.string s) yI (fun w' Y=>?_) (fun K J=>?_)
      ·have bh:w'.cell? ⟨w+3,q,none⟩=some (.string s):=Y.2 0 _ rfl
       go_simp
      refine Z2n ?_;clear J K;have ab:=A4 ((D.block _ yE).trans ah) 0 _ rfl;have aI:=Zhv O (w+1+1) 0 _ 48 ((D.block _ yE).trans ah);have ix:=Zhy O (w+1+1) 0 _ 48 (.int .u8 2) ((D.block _ yE).trans ah);have bu:=As O (w+1+1) 0 (.int .u8 2);simp only[Zac]at ab;refine A1 rfl (fun K J=>?_);go_wp2_with fail
      refine J _ _ yF (Js (fun h=>Ag h (bu.block _ yE (B4 yE))) (fun h=>⟨uF,Ag h.2 (bu.block _ yE (B4 yE))⟩)) ?_;clear J K ab aI;have bqp:=Bn (Ck (some (w.heap.size+1+1)) D yE) bu;generalize O.setCell ⟨w+1+1,0,none⟩ (.int .u8 2)=bs at ix bu bqp|-;refine Z58 ?_;intro yk f11 bmd dY p4;clear bmd ix;simp only[Zac]at yk;refine Z04 ?_;refine A1 rfl (fun K J=>?_);go_wp2_with fail
      refine Z3y ?_;clear J K;refine B1 ?_;go_wp2_with fail
      go_meet
      case rel=>exact⟨2,false,false,0,0,0,0,0,0,0,[],none,0,s,0,0,rfl,p4.out,Tree.A6.shut (E:=Cc.cells) (l:=⟨0,0,0,0,0,0,0⟩) (Zap _) (.inl rfl),.inr (.inl ⟨rfl,rfl,rfl,rfl,rfl,(Mr av.out).1,(Mr av.out).2⟩),fun e=>absurd e yH,wV,by simp[Ei],(dY.block _ yE (B4 yE)).trans bg,(dY.block _ yE (B4 yE)).trans hA0,aJ.grown dY aJ.size (fun r e=>yM),by have:=dY.size;omega⟩
     have ab:=A4 ah 0 _ rfl;have aI:=Zhv a0 (w+1+1) 0 _ 48 ah;have bY:=Zhy a0 (w+1+1) 0 _ 48 (.int .u8 2) ah;have bu:=As a0 (w+1+1) 0 (.int .u8 2);have xn:(a0.setCell ⟨w+1+1,0,none⟩ (.int .u8 2)).heap.size=a0.heap.size:=yF;simp only[Zac]at ab;refine A1 rfl (fun K J=>?_);go_wp2_with fail
     refine J _ _ yF (Js (fun h=>Ag h (bu.block _ yE (B4 yE))) (fun h=>by have:=h.1;omega)) ?_;clear J K ab aI;generalize a0.setCell ⟨w+1+1,0,none⟩ (.int .u8 2)=O at bY bu xn|-;obtain⟨bs,aT⟩:=zL (O.alloc (.cells #[Value.string ⟨#[97]⟩,.string ⟨#[98]⟩,.string ⟨#[97,98]⟩,.string ⟨#[98,97]⟩,.string ⟨#[97,97,98]⟩,.string ⟨#[99]⟩] 9));have D:Below O O bs:=by rw[<-aT];exact Af _
     have an:bs.rangeAt O 0 [Value.string ⟨#[97]⟩,.string ⟨#[98]⟩,.string ⟨#[97,98]⟩,.string ⟨#[98,97]⟩,.string ⟨#[97,97,98]⟩,.string ⟨#[99]⟩]:=by rw[<-aT];exact Ae _ _ _
     have b7:bs.heap.size=O+1:=by rw[<-aT];simp
     refine M5 (w':=bs) rfl (by rw[<-aT];exact O4 _ _ _ _ rfl (Sk _) (by simp[Act.eval])) (Bg ⟨yE,fun j v aj=>by
      rcases j with _ | j
      ·have h1:=an q _ aY.out
       exact Z2h
      simp at aj⟩) (Js (fun h=>Aa h D yE) (fun h=>absurd h.1 yE)) ?_
     clear aT;refine Z3Z ?_;refine Ba (.string s) yI (fun w' Y=>?_) (fun K J=>?_)
     ·have bh:w'.cell? ⟨w+3,q,none⟩=some (.string s):=Y.2 0 _ rfl
      go_simp
     refine Z2n ?_;clear J K;have ix:=(D.block _ yE).trans bY;have bqp:=Bn bu (Ck (some (w.heap.size+1+1)) D yE);refine Z58 ?_;intro yk f11 bmd dY p4;clear bmd ix;simp only[Zac]at yk;refine Z3Z ?_;refine A1 rfl (fun K J=>?_);go_wp2_with fail
     refine Z4v ?_;clear J K;refine B1 ?_;go_wp2_with fail
     go_meet
     case rel=>exact⟨2,false,false,0,0,0,0,0,0,0,[],none,0,s,0,0,rfl,p4.out,Tree.A6.shut (E:=Cc.cells) (l:=⟨0,0,0,0,0,0,0⟩) (Zap _) (.inl rfl),.inr (.inl ⟨rfl,rfl,rfl,rfl,rfl,(Mr av.out).1,(Mr av.out).2⟩),fun e=>absurd e yH,wV,by simp[Ei],(dY.block _ yE (B4 yE)).trans bg,(dY.block _ yE (B4 yE)).trans hA0,aJ.grown dY aJ.size (fun r e=>yM),by have:=dY.size;omega⟩
    have aC:decide ((il:Int)%8<5)=false:=Zhs h5;rw[aC];clear aC ao;rcases(show(il:Int)%8=5\/6<=(il:Int)%8 from yE)with h6 | h6
    ·have bd:((il:Int)%8==5)=true:=by rw[h6];rfl
     clear h6
     skip
     have ix:=Zhy ag (w+1+1) 0 _ 48 (.int .u8 3) am.out;have bu:=As ag (w+1+1) 0 (.int .u8 3);have p4:=Zaa ix;clear ix;go_wp2_with fail
     go_meet
     case rel=>exact⟨3,false,false,0,0,0,0,0,0,0,[],none,0,⟨#[]⟩,0,-1,rfl,p4.out,Tree.A6.shut (E:=Cc.cells) (l:=⟨0,0,0,0,0,0,0⟩) (Zap _) (.inl rfl),.inr (.inr (.inl ⟨rfl,rfl,rfl,rfl,rfl,rfl⟩)),fun e=>absurd e yH,wV,by simp[Ei],(bu.block _ yE yJ).trans az.out,(bu.block _ yE yF).trans b5.out,af.grown bu af.size (fun r e=>yM),uF⟩
    have bd:((il:Int)%8==5)=false:=by rw[Zaz];omega
    clear h6
    skip
    obtain⟨ae,e2,e0⟩:∃r:Nat,(zj:Int).tmod 8=(r:Int)/\r<8:=⟨zj%8,wN,yE⟩;have eg:IntKind.i64.wrap (ae:Int)=(ae:Int):=Zcy _ yE;have dX:IntKind.i64.wrap (1+(ae:Int))=1+(ae:Int):=Zcy _ yE;have ix:=Zhy (ag.drewN 1) (w+1+1) 0 _ 48 (.int .u8 4) ((Zhg ag 1).symm▸am.out);have bu:=As (ag.drewN 1) (w+1+1) 0 (.int .u8 4);have bX:=Zhy _ (w+1+1) 12 _ 48 (.int .i64 (1+(ae:Int))) ix;have aZ:=As ((ag.drewN 1).setCell ⟨w+1+1,0,none⟩ (.int .u8 4)) (w+1+1) 12 (.int .i64 (1+(ae:Int)));have al:ag.grownBy (ag.drewN 1) none:=B5 _ 1 none;refine Z4T ?_;intro ee E2;have m0:(ag.drewN 1).cell? ⟨w+1+1,0,none⟩=some (.int .u8 0):=(Zaw yO).trans ab;have e5:(ag.drewN 1).frozen? ⟨w+1+1,0,none⟩=false:=Zhv _ (w+1+1) 0 _ 48 ((Zhg ag 1).symm▸am.out);have m2:=A4 ix 12 _ rfl;have e6:=Zhv _ (w+1+1) 12 _ 48 ix;simp only[Zac]at m2;have p4:=Zaa bX;clear ix bX;go_wp2_with fail
    refine C1 [(0,.inl none),(1,.inl (some 0)),(2,.inl none),(3,.inl none),(4,.inl none),(5,.inl none),(6,.inr [0]),(7,.inl none),(8,.inr [])]
     (fun _ W=>W.rangeAt w 0 [.int .u8 il,.int .u8 te,.int .u8 zj,.int .u8 Gg,.slice fp x.Ea rc,.slice gz x.Aw ac]) yG yG (fun _=>E2) ?_
    refine Z3s ?_;refine Z2m ?_;refine Av (.int .u8 zj) yI (fun w' Y=>?_) (fun K J=>?_)
    ·have bh:=Y 2 _ rfl
     exact Z15
    refine Z42 ?_;clear J K;refine Z4w ?_;refine Cy rfl (fun K J=>?_);go_wp2_with fail
    refine J _ _ (Bg (Ag E2 (bu.block _ vQ yJ))) ?_;clear J K;refine Z2m ?_;refine Cy rfl (fun K J=>?_);go_wp2_with fail
    refine J _ _ yF ?_;clear J K;refine C7 ?_;go_wp2_with fail
    go_meet
    case rel=>exact⟨4,false,false,0,0,0,0,0,0,0,[],none,0,⟨#[]⟩,1+(ae:Int),-1,rfl,p4.out,Tree.A6.shut (E:=Cc.cells) (l:=⟨0,0,0,0,0,0,0⟩) (Zap _) (.inl rfl),.inr (.inr (.inr ⟨rfl,rfl,rfl,rfl,rfl,show(1:Int)<=1+(ae:Int)from yE,show 1+(ae:Int)<=1000 from yE⟩)),fun e=>absurd e yH,wV,by simp[Ei],(aZ.block _ sE yJ).trans ((bu.block _ vQ yJ).trans ((Zhr (fun h=>h[w.heap.size]?) ee).trans az.out)),(aZ.block _ sE yF).trans ((bu.block _ vQ yF).trans ((Zhr (fun h=>h[w.heap.size+1]?) ee).trans b5.out)),((af.grown al af.size yF).grown bu vQ (fun r e=>yM)).grown aZ sE (fun r e=>yM),by have:=bu.size;have:=aZ.size;rw[ee]at*;omega⟩
 case rest=>
  obtain⟨k,st,sp,G,v0,v1,v2,v3,H,M,F,a2,a3,text,Az,Cj,rfl,bU,aN,hF,ap,cP,b1,bc,hA,U,ec⟩:=hcut;obtain⟨wd,cI⟩:∃wd,wd=wc:=⟨_,rfl⟩;subst cI;obtain⟨L,c5,bf,e4⟩:∃L:Nat,min (x.Aw.length:Int) 3=(L:Int)/\L<=x.Aw/\L<=3:=⟨min x.Aw.length 3,yE,yE,yE⟩;have cd:=A4 bc 5 _ rfl;simp only[Zac]at cd;have cJ: -1<=Cj:=by rw[b1];exact Xp _
  have dN:Cj<=100:=by have:=An9 ⟨k,st,sp,(.node ⟨G,v0,v1,v2,v3,H,M⟩ F),text,Az,[],Fw,0⟩ ap;rw[<-b1]at this;omega
  have cG:=Zaa bU;have dS:=Zaa aN;have dv:=Zaa bc;have dR:=Zaa hA;have dw:=Zaa hF;have bj:=Zaa ap;have av:=Zaa b1;clear bU aN bc hA hF ap b1;go_wp2_with fail
  go_loopw [65] (fun v wr=>∃(i:Nat) (V:List Dv) (u:Value),i<=L/\v=.int .i64 i/\V=i/\(∀a∈V,Ow Cj a)/\Au (A2 C2 wd) wd 120 8 wr V u/\wr.heap[w.heap.size+1+1]? =some (.cells #[k,st,sp,G,v0,v1,v2,v3,H,M,.slice a2 F a3,text,Az,u,zC,zE] 48 (0,0))/\wd.grownBy wr (some (w.heap.size+1+1))) (fun v _=>L - (intOf v).toNat)
  case atStart=>exact⟨0,[],_,Zap _,rfl,rfl,yF,Au.nil _ _ _ _ _,cG.out,Ju _ _⟩
  case round=>
   obtain⟨i,V,u,dV,rfl,cB,bT,aL,b9,ai⟩:=hrel;obtain⟨a4,gc,rfl,es⟩:=aL.shape;subst cB;have dZ:=ai.size;by_cases ba:V<L
   ·have ej:(V.length:Int) <L:=by omega
    rcases dI.out with e | ⟨b,o,rfl,ed,aK⟩
    ·rw[e]at bf;simp at bf;omega
    obtain⟨e7,h1,h2⟩:=aK V yE;have ax:Below w w wr:=U.grown ai yE (fun r e=>yM);have aP:=Aa h1 ax yE;have ci:=Mu.Ab.below h2 (ax.mono bx);generalize x.Aw[V.length]=A at ci;obtain⟨ea,e8,rfl,dm,dT⟩:=ci;obtain⟨aa,a9,rfl,dH,cq⟩:=dm;obtain⟨a8,a7,rfl,dz,bC⟩:=dT;have bz:Mu wr (fun b=>b<n) A [A.kind,A.n,.slice aa A.Ay a9,.slice a8 A.Bw a7]:=⟨_,_,rfl,⟨aa,a9,rfl,dH,cq⟩,a8,a7,rfl,dz,bC⟩;have d0:=aP 0 _ rfl;have d1:=aP 1 _ rfl;have d2:=aP 2 _ rfl;have d3:=aP 3 _ rfl;simp only[Zaf]at d0;have aw:=Zaa b9;have b6:=Zaa bz;clear h1 h2 aP aK b9 bz cq bC;go_wp2_with fail
    obtain⟨ay,ic⟩:=zL (wr.alloc (.cells #[A.kind,A.n,.slice aa A.Ay a9,.slice a8 A.Bw a7] 131));rw[ic];have bt:Below wr wr ay:=wH;have np:ay.heap.size=wr+1:=xS;have cf:ay.rangeAt wr 0 [A.kind,A.n,.slice aa A.Ay a9,.slice a8 A.Bw a7]:=by rw[<-ic];exact Ae wr [A.kind,A.n,.slice aa A.Ay a9,.slice a8 A.Bw a7] _
    clear ic d0 d1 d2 d3;refine Z4y ?_;intro ee c9;have bi:(ay.drewN 1).rangeAt wr 0 [A.kind,A.n,.slice aa A.Ay a9,.slice a8 A.Bw a7]:=Ag cf yO;refine Z56 ?_;intro j4;have b8:=(c9.block (w+1+1) yE).trans aw.out;have aS:=A4 b8 13 _ rfl;simp only[Zac]at aS;refine Ce [(0,.inl none),(1,.inl (some 0)),(2,.inl (some 1)),(3,.inl none),(4,.inr ([],[0])),(5,.inr ([],[0])),(6,.inr ([],[])),(7,.inl none),(8,.inr ([],[]))]
     (fun k W=>match k with | 0=>W.cell? ⟨w+1+1,13,none⟩=some (.slice a4 V gc) | _=>W.rangeAt wr 0 [A.kind,A.n,.slice aa A.Ay a9,.slice a8 A.Bw a7]) [0,1] yG yG (lv2 aS bi) ?_
    refine Z3s ?_;have ma:=aL.below (A2.Ab C2.Ab _) c9 (Zab _);have cn:=Bn ai (Ck (some (w.heap.size+1+1)) c9 (Zab _));have bp:=Mu.Ab.below b6.out (c9.mono yE);generalize ay.drewN 1=a0 at c9 bi j4 b8 aS ma cn bp|-;have aU:=Zaa b8;have dE:=Zaa bp;have cR:=Zaa aS;clear bi ee cf bt np b8 bp aS;refine Z04 ?_;refine Ba (.slice a4 V gc) yI (fun w' Y=>?_) (fun K J=>?_)
    ·have ep:w'.cell? ⟨w+1+1,13,none⟩=some (.slice a4 V gc):=Y
     go_simp
    refine Z2n ?_;clear J K;refine Ba (.agg #[A.kind,A.n,.slice aa A.Ay a9,.slice a8 A.Bw a7]) yI (fun w' Y=>?_) (fun K J=>?_)
    ·have bb:=Y 0 _ rfl
     have bh:=Y 1 _ rfl;have dc:=Y 2 _ rfl;have dg:=Y 3 _ rfl;simp only[Zac]at bb bh dc dg;go_simp
    refine Z2n ?_;clear J K;refine Z04 ?_;refine A1 rfl (fun K J=>?_);go_wp2_with fail
    refine(Ahn A Cj cJ dN [A.kind,A.n,.slice aa A.Ay a9,.slice a8 A.Bw a7] a0 n yE dE.out).mono ?_;rintro e O ⟨t,cs,rfl,be,dF,D⟩;obtain⟨bb,bh,dy,dA,de,cD,q1,di,du,dx,dq,dr,rfl⟩:=Aai t cs be;have cN:=Zaa be;clear be;go_wp2_with fail
    refine J _ _ yF (Bg (fun _=>(Zaw (a:=⟨w+1+1,13,none⟩) (D.block (w+1+1) yE)).trans cR.out)) ?_;clear J K;have cj:=ma.below (A2.Ab C2.Ab _) D (Zab _);have b7:=D.size;have dM:=Bn cn (Ck (some (w.heap.size+1+1)) D (Zab _));refine P6 C2.Ab rfl rfl rfl rfl _ _ 46 rfl wd.heap.size 120 8 112 U5 Yw yH V (.slice a4 V gc) cj t [.int .u8 bb,bh,.slice dy dA de,.int .u8 cD,.float .f64 q1,di,du,.slice dx dq dr]
     (C2.Ab.wide cN.out (fun b U=>⟨⟨U.2,fun e=>sM⟩,yE⟩)) rfl yL yP yE yE
     (w.heap.size+1+1) 13 48 [k,st,sp,G,v0,v1,v2,v3,H,M,.slice a2 F a3,text,Az,.slice a4 V gc,zC,zE] yE ((D.block _ yE).trans aU.out) rfl (fun W=>yU) (fun v=>⟨rfl,rfl⟩) (fun v ef W=>yU) (fun v cw en cy W h1 h2=>yU)
     (Bg (fun h=>(Zaw (a:=⟨w+1+1,13,none⟩) ((Af _).block (w+1+1) yE)).trans h)) ?_
    intro cw cy bs dG et bN c7 b4 cl _;have dJ:=Lp dM b4 c7 (fun k e=>(cj.lt k e).1);have aV:=Zaa bN;clear bN c7;go_wp2_with fail
    go_roundw
    case rel=>exact⟨V+1,V++[t],_,yE,yK,yF,Fa bT dF,dG,aV.out,dJ⟩
    case measure=>simp[intOf];omega
   obtain rfl:L=V:=by omega
   have eb:¬((V.length:Int) <V.length):=yE;have bB:=(ai.block w yE (B4 yE)).trans dv.out;have bS:=(ai.block (w+1) yE (B4 yE)).trans dR.out;have ax:Below w w wr:=U.grown ai yE (fun r e=>yM);have c6:=A4 bB 3 _ rfl;simp only[Zac]at c6;obtain⟨g,cx,el⟩:∃g:Nat,(Gg:Int)%8=(g:Int)/\g<8:=⟨Gg%8,yE,yE⟩;have aw:=Zaa b9;have dp:=Zaa bS;clear b9 bB bS;obtain⟨T,cH⟩:∃T,T=wr:=⟨_,rfl⟩;subst cH;go_upto_if 83 with fail
   go_cut [9] (fun v ay=>∃(A3:zS) (Bl:Int),ay.heap[w.heap.size+1+1]? =some (.cells #[k,st,sp,G,v0,v1,v2,v3,H,M,.slice a2 F a3,text,Az,.slice a4 V gc,A3,Bl] 48 (0,0))/\((A3∈D7.take Ac/\Bl=0)\/(A3=Fw/\0<=Bl/\Bl<=255))/\T.grownBy ay (some (w.heap.size+1+1)))
   case first=>
    by_cases h6:(g:Int) <6
    ·obtain⟨q,bd,bo⟩:∃q:Nat,(g:Int).tmod Ac=(q:Int)/\q<Ac:=⟨g%Ac,wN,Zgd _ yE⟩
     have cv:(q:Int) <4:=yE;have bq:q<D7:=by show q<4;omega
     obtain⟨s,b0⟩:∃s,D7[q]? =some s:=⟨_,Zam bq⟩;have aQ:s∈D7.take Ac:=by
      have:(D7.take Ac)[q]? =some s:=by rw[Zeh];simp[bo,b0]
      exact Zax this
     have aB:([.string ⟨#[97]⟩,.string ⟨#[98]⟩,.string ⟨#[99]⟩,.string ⟨#[100]⟩]:List Value)[q]? =some (.string s):=by
      have h1:(D7.map Value.string)[q]? =some (.string s):=xF;exact h1
     have eq:¬(Ac=0):=yE;have cU:=Zaa aQ;have aY:=Zaa aB;clear b0 aQ aB cx;have ee:(T.drewN 1).heap=T.heap:=Zhg _ _;have cu:T.grownBy (T.drewN 1) (some (w.heap.size+1+1)):=B5 _ 1 _;have aq:(T.drewN 1).heap[w.heap.size+1+1]? =some (.cells #[k,st,sp,G,v0,v1,v2,v3,H,M,.slice a2 F a3,text,Az,.slice a4 V gc,zC,zE] 48 (0,0)):=by rw[ee];exact aw.out
     have j4:(T.drewN 1).heap.size=T.heap.size:=yO;go_wp2_with fail
     refine Ce [(1,.inl none),(2,.inl none),(3,.inl none),(0,.inr ([0],[0])),(4,.inl none),(5,.inl (some 0)),(6,.inl none),(7,.inr ([],[]))]
      (fun _ W=>W.rangeAt T q [.string s]) [] yG yG (fun k aX=>by simp at aX) ?_
     refine Z3s ?_;generalize T.drewN 1=a0 at cu aq j4|-;clear ee c6 cd;refine Z4K ?_;refine A1 rfl (fun K J=>?_);go_wp2_with fail
     refine(Yk _).mono ?_;rintro e O ⟨rfl,a5⟩;have D:Below a0 a0 O:=by rw[a5];exact Af _
     have an:=Ae a0 [.string ⟨#[97]⟩,.string ⟨#[98]⟩,.string ⟨#[99]⟩,.string ⟨#[100]⟩] 9;have b7:O.heap.size=a0+1:=by rw[a5];simp
     rw[<-a5]at an;clear a5;have hp:O.rangeAt T q [.string s]:=fun j v aj=>by
      rcases j with _ | j
      ·have h1:=an q _ aY.out
       simp only[Zad,Zbb]at aj;subst aj;simpa[j4]using h1
      simp at aj
     go_wp2_with fail
     refine J _ _ (Bg hp) (Bg (fun _=>hp)) ?_;clear J K;have a6:=(D.block (w+1+1) yE).trans aq;have da:=A4 a6 14 _ rfl;have f14:=Zhv O (w+1+1) 14 _ 48 a6;have ix:=Zhy O (w+1+1) 14 _ 48 (.string s) a6;have bu:=Bn (Bn cu (Ck (some (w.heap.size+1+1)) D (Zab _))) (As O (w+1+1) 14 (.string s));have p4:=Zaa ix;simp only[Zac]at da;clear ix a6 aq an hp;refine Z3Z ?_;refine Ba (.string s) yI (fun w' Y=>?_) (fun K J=>?_)
     ·have bh:w'.cell? ⟨T,q,none⟩=some (.string s):=Y 0 _ rfl
      go_simp
     refine Z2n ?_;clear J K;refine Z3Z ?_;refine A1 rfl (fun K J=>?_);go_wp2_with fail
     refine Z4v ?_;clear J K;refine B1 ?_;go_wp2_with fail
     go_meet
     case rel=>exact⟨s,0,p4.out,.inl ⟨cU.out,rfl⟩,bu⟩
    have db:=A4 aw.out 15 _ rfl;have f15:=Zhv T (w+1+1) 15 _ 48 aw.out;have ix:=Zhy T (w+1+1) 15 _ 48 (.int .i64 ((g:Int)*41%256)) aw.out;have bu:=As T (w+1+1) 15 (.int .i64 ((g:Int)*41%256));simp only[Zac]at db;have p4:=Zaa ix;clear ix;go_wp2_with fail
    go_meet
    case rel=>exact⟨Fw,(g:Int)*41%256,p4.out,.inr ⟨rfl,yE,yE⟩,bu⟩
   case rest=>
    obtain⟨A3,Bl,aK,cQ,aM⟩:=hcut;have a1:=A4 aK;refine Z0x ?_;intro d0 d1 d2 d3 d4 d5 d6 d7;have d8:=a1 8 _ rfl;have d9:=a1 9 _ rfl;have d10:=a1 10 _ rfl;have d11:=a1 11 _ rfl;have d12:=a1 12 _ rfl;have d13:=a1 13 _ rfl;have d14:=a1 14 _ rfl;have d15:=a1 15 _ rfl;simp only[Zac]at d0 d1 d2 d3 d4 d5 d6 d7 d8 d9 d10 d11 d12 d13 d14 d15;have aO:=Dp ((aM.block (w+1) yE (B4 yE)).trans dp.out);have b3:=Zaa aO;have bK:=(aL.fresh C2.Ab);have cT:=Zaa bK;have aN:=Tree.A6.block dS.out (fun b U=>(aM.block b yE (B4 yE)).trans (ai.block b U.2 (B4 yE)));have cZ:=Zaa aN;have ck:Below w w wc:=ax.grown aM (by have:=ax.size;omega) (fun r e=>yM);have e9:=aM.size;clear aO bK a1 aK aN;go_wp2_with (refine Zil rfl 48 _ _ rfl _ _ _ rfl rfl b3.out yG yL ?_)
    have um:=Ao wc (w+1) [k,st,sp,G,v0,v1,v2,v3,H,M,.slice a2 F a3,text,Az,.slice a4 V gc,A3,Bl] 0;have bw:=Zar wc (w+1) 0 [k,st,sp,G,v0,v1,v2,v3,H,M,.slice a2 F a3,text,Az,.slice a4 V gc,A3,Bl] b3.out;generalize wc.setCells (w+1) 0 [.int .u8 k.toNat,.bool st,.bool sp,.int .u8 G.toNat,.int .u64 v0.toNat,.int .u64 v1.toNat,.int .u64 v2.toNat,.int .u64 v3.toNat,.int .i64 H,.int .i64 M,.slice a2 F a3,.string text,.int .i64 Az,.slice a4 V gc,.string A3,.int .i64 Bl]=em at um bw|-;refine Zho (Aq rfl _ _ _ _ _ rfl bw yG yG) rfl ⟨⟨k,st,sp,(.node ⟨G,v0,v1,v2,v3,H,M⟩ F),text,Az,V,A3,Bl⟩,[k,st,sp,G,v0,v1,v2,v3,H,M,.slice a2 F a3,text,Az,.slice a4 V gc,A3,Bl],rfl,⟨[G,v0,v1,v2,v3,H,M,.slice a2 F a3],.slice a4 V gc,rfl,?_,?_⟩,⟨dw.out,bj.out,cP,yE,fun a dh=>by have:=bT a dh;rwa[av.out]at this,cQ⟩,ck.grown um ck.size (fun r e=>yM)⟩
    ·exact Tree.A6.mono (Tree.A6.block cZ.out (fun b U=>um.block b yE (B4 yE))) (fun b U=>⟨yE,tF⟩)
    exact(Al.Ab C2.Ab).wide ((Al.Ab C2.Ab).block ((Al.Ab C2.Ab).block cT.out (fun b U=>aM.block b U.2 (B4 yE))) (fun b U=>um.block b yE (B4 yE))) (fun b U=>⟨yE,tF⟩)
end Go.Proofs.YtafmoofknjncpaaGreatDoor
