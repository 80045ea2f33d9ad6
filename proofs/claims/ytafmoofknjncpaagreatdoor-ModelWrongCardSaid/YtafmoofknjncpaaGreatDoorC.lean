/- A part of the proof that ModelWrong holds: its theorems stand as they are typed. -/
import Derived.Shelf.Abstract
import Derived.OwnWalkIn
import Derived.TacticsInMore
import Derived.LoopNIn
import Derived.LoopIn
import Derived.Deep.RegionHeld3
import Derived.Test.YtafmoofknjncpaaGreatDoorA
import Derived.Test.YtafmoofknjncpaaGreatDoorB
set_option linter.all false
set_option maxRecDepth 100000
set_option maxHeartbeats 8000000
namespace Go.Proofs.YtafmoofknjncpaaGreatDoor
section
open Tryz Go.RowKit Go.Shelf
attribute [local go_sem] Oper.semAt_some
theorem Lc (cs:zP) (w:zN):
  Calls prog 82 #[.agg cs.toArray] w fun e w'=>e=.returned (.func (.func 114) #[] #[zK w])/\w.alloc (.cells cs.toArray 43)=w':=by
 go_enter func82,ntmps82
 go_wp2
 exact Z0K
theorem Bo.eight {w:zN} {n:Nat} {t:Rx} {cs:zP} (h:Bo w n t cs):
  ∃(k:UInt8) (s0 s1 s2 s3:UInt64) (mn mx:Int) (a:zO) (m c:Nat),cs=[.int .u8 k.toNat,.int .u64 s0.toNat,.int .u64 s1.toNat,.int .u64 s2.toNat,.int .u64 s3.toNat,.int .i64 mn,.int .i64 mx,.slice a m c]:=by
 obtain⟨l,s⟩:=t
 obtain⟨a,c,rfl,_⟩:=h.open
 exact⟨_,_,_,_,_,_,_,_,_,_,rfl⟩
theorem Uk {L:Type}:∀(s:List (Tree L)) (i k:Nat) (ae:i<s) (A:k<s[i].pre.length),(Tree.Dw s)[Tree.Bf (s.take i)+k]? =some (s[i].pre[k]):=by
 intro s
 induction s with
 | nil=>intro i k ae;simp at ae
 | cons x xs D=>
  intro i k ae A;cases i with
  | zero=>
   simp only[Zfr,Tree.Bf,Zac,Tree.Dw,Zek]at A|-;rw[Zbp A,Zam A]
  | succ i=>
   simp only[Zfq,Tree.Bf,Tree.Dw,Zej]at A|-;rw[Zee (by rw[Tree.Dx];omega),Tree.Dx,show x.size+Tree.Bf (xs.take i)+k - x.size=Tree.Bf (xs.take i)+k from yE];exact D i k xE A
theorem I7 {L:Type} (s:List (Tree L)) (i:Nat) (A:i<s):Tree.Bf (s.take (i+1))=Tree.Bf (s.take i)+s[i].size:=by
 rw[Zay A,Tree.En];simp[Tree.Bf]
structure Ot (ca aC n Ix:Nat) (cR:Value) (cs:zP) (t:Rx) (Ds:List Nat) (X:zN):Prop where
 box:X.rangeAt ca 0 cs
 Pz:X.cell? ⟨aC,0,none⟩=some cR
 tree:Bo X n t cs
 nd:Ds.Nodup
 Kb:∀D∈Ds,Ix<=D/\X.heap[D]? =some (.deferred (some []))
theorem Ot.B8 {T M n J B:Nat} {O:Value} {cs:zP} {t:Rx} {Ds:List Nat} (U:∀D∈Ds,D<B):At B (Ot T M n J O cs t Ds):=fun A C row h G F=>
 ⟨Dg A C row h.box G F,I3 A C row h.Pz G F,Tree.In.B8 A C row h.tree G F,h.nd,fun D H=>⟨(h.Kb D H).1,(G.block D (Zbx.1 (h.Kb D H).2).1 (fun e=>by have:=(F D e.symm).1;have:=U D H;omega)).trans (h.Kb D H).2⟩⟩
theorem Ot.Mp {A G n F B M:Nat} {J:Value} {cs:zP} {t:Rx} {Ds:List Nat} {X Y:zN} (h:Ot A G n F J cs t Ds X) (g:Cg n B M X Y) (O:A<n\/B<=A) (T:B<=G) (U:M<=F):
  Ot A G n F J cs t Ds Y:=
 ⟨Ni h.box g O,Rc h.Pz g (.inr T),h.tree.Mp g,h.nd,fun D H=>⟨(h.Kb D H).1,g.same D _ (by simp[Obj.isCells];have:=(h.Kb D H).1;omega) (h.Kb D H).2⟩⟩
theorem Akk (t:Rx):∀(cs:zP) (m l F n B ap:Nat) (G:Nat->World->Prop) (O:World->Prop) (W:zN),t.size<=1000000->Bo W n t cs->W.rangeAt F 0 cs->(F<n\/B<=F)->n<=B->B<=W->ap<=W->
  (∀k,At W (G k))->At W O->
  (∀k X dk (h:k<t.pre.length),Bo X n t.pre[k] dk->G k X->YieldAt Fence.wide (m - 1) prog l #[.agg dk.toArray] X fun e a8=>(e=.returned (.bool true)/\G (k+1) a8/\Cg n B ap X a8)\/(e=.returned (.bool false)/\O a8/\Cg n B ap X a8))->
  G 0 W->CallsIn Fence.wide m prog 114 #[.func (.yield l) #[] #[],zK F] W fun e H=>(∃v,e=.returned v)/\(G t.size H\/O H):=by
 induction t using Tree.ind with
 | h lb s aU=>
 intro cs m l F n B ap G O W bp b8 my bt aK bc bd a4 aI gy h0
 obtain⟨a,c,fc,b7,b9⟩:=b8.open
 obtain⟨v0,v1,v2,v3,v4,v5,v6,aH⟩:∃v0 v1 v2 v3 v4 v5 v6,lb.cells=[v0,v1,v2,v3,v4,v5,v6]:=⟨_,_,_,_,_,_,_,rfl⟩
 rw[aH]at fc
 simp only[Zas,Zau]at fc
 have hlen:s.length<=1000000:=wS
 obtain⟨aq,yr⟩:=zL (W.alloc (.cells #[.func (.yield l) #[] #[]] 133))
 have aW:aq.heap.size=W+1:=by rw[<-yr];simp
 have aa:Below W W aq:=by rw[<-yr];exact(Zai _ _).alloc (Zab _) _
 have am:Ot F W n W (.func (.yield l) #[] #[]) cs (.node lb s) [] aq:=by
  exact Z1p
 have M:=am.box
 rw[fc]at M
 have aA:=M 0 _ rfl
 have aB:=M 1 _ rfl
 have av:=M 2 _ rfl
 have aD:=M 3 _ rfl
 have aF:=M 4 _ rfl
 have aE:=M 5 _ rfl
 have az:=M 6 _ rfl
 have V:=M 7 _ rfl
 have bg5:=am.Pz
 simp only[Zac]at aA aB av aD aF aE az V
 obtain⟨fn,tmps,assign,body,hy,bl⟩:=gy 0 aq cs (by simp[Tree.pre]) am.tree (by rw[<-yr];exact(a4 0).new h0 _)
 rw[fc]at hy
 refine Zhp func114 rfl trivial ?_ rfl
 simp only[ntmps114,Zfk,Zao,Zav,Nat.reduceAdd,Nat.reduceSub,Zcb,Zcc,Zff,Zdl,Zau,Zas]
 clear M
 gi_wp2_with fail
 refine⟨fun h=>yT,bl.mono ?_⟩
 have b4:At W (fun H=>G (Tree.node lb s).size H\/O H):=(a4 _).or aI
 have wb:∀(aC:Array Value) (Ds:List Nat) (X:zN),Ds.Nodup->(∀D∈Ds,W.heap.size<=D/\X.heap[D]? =some (.deferred (some [])))->(G (Tree.node lb s).size X\/O X)->
   LeavesInM Fence.wide m prog f114 aC (fun e H=>(∃v,e=Ending.returned v)/\(G (Tree.node lb s).size H\/O H)) (marks Ds) .returning X:=fun aC Ds X h1 h2 h3=>
  Fy b4 (fun H hw=>⟨_,Zid rfl _ _ _,⟨_,rfl⟩,hw⟩) Ds X h1 h2 h3
 clear hy bl aA aB av aD aF aE az V bg5
 rintro e ba (⟨rfl,jX,aw⟩ | ⟨rfl,aQ,aw⟩)
 rotate_left
 ·gi_wp2_with fail
  exact wb _ [] _ yF yF (.inr aQ)
 have bL:=am.Mp aw bt yE yE
 have aJ:=aw.size
 rw[aW]at aJ
 have V:=bL.box
 rw[fc]at V
 replace V:=V 7 _ rfl
 simp only[Zac]at V
 gi_wp2_with fail
 refine wpIn_loop (fun ak wr=>∃(i:Nat) (Ds:List Nat) (u3 u4 u5 u6 u7 u8 u9 u10 u14 u15 u16 u17 u18 u19 u20 u21 u22 u23 u24:Value),ak={tmps:=#[.func (.yield l) #[] #[],.pointer (some ⟨F,0,none⟩),.pointer (some ⟨W,0,none⟩),u3,u4,u5,u6,u7,u8,u9,u10,.slice a s c,.int .i64 s,.int .i64 i,u14,u15,u16,u17,u18,u19,u20,u21,u22,u23,u24],defers:=marks Ds}/\i<=s/\G (1+Tree.Bf (s.take i)) wr/\Ot F W n W (.func (.yield l) #[] #[]) cs (.node lb s) Ds wr/\W.heap.size<wr) (fun ak _=>s.length - (intOf (ak.tmps.getD 13 undef)).toNat) ?start ?round
 case start=>
  exact Z1Y
 case round=>
  rintro ak wr ⟨i,Ds,u3,u4,u5,u6,u7,u8,u9,u10,u14,u15,u16,u17,u18,u19,u20,u21,u22,u23,u24,rfl,b6,bk5,fz,bj⟩;by_cases ao:i<s
  ·have bg:(i:Int) <s.length:=by omega
   obtain⟨a2,av,ax,-,b3⟩:=fz.tree.open;rw[aH,fc]at ax;simp only[Zas,Zau,Zdm,Zhd,Zih,Zhm]at ax;obtain⟨rfl,rfl⟩:=ax;obtain rfl | ⟨b,o,rfl,U,aX⟩:=b3
   ·simp at ao
   obtain⟨dk,a6,aG⟩:=aX i ao;obtain⟨z0,Y,z2,z3,z4,z5,a3,a0,a1,z9,rfl⟩:=Bo.eight aG;have d0:=a6 0 _ rfl;refine Z0z ?_;intro d1 d2 d3 d4 d5 d6 d7;simp only[Zaf]at d0;have bf:b<wr:=Bm a6 yF;gi_wp2_with fail
   refine⟨trivial,fun h=>yT,(Zhq.2 (Lc [z0,Y,z2,z3,z4,z5,a3,.slice a0 a1 z9] _)).mono ?_⟩;rintro e ag ⟨rfl,cr⟩;gi_wp2_with fail
   have T:Below wr wr ag:=rE;have bm:ag.heap.size=wr+2:=xK;have hj:∀D∈Ds,D<wr.heap.size:=fun D hj=>(Zbx.1 (fz.Kb D hj).2).1
   have an:∀au,wr.heap.size<=au->At au (Ot F W n W (.func (.yield l) #[] #[]) cs (.node lb s) Ds):=fun au bh=>Ot.B8 (fun D h=>by have:=hj D h;omega)
   have b5:=(an _ (Zab _)).below fz T (Zab _);have aV:=(a4 (1+Tree.Bf (s.take i))).below bk5 T (Zab _);have aS:Bo ag n s[i] [z0,Y,z2,z3,z4,z5,a3,.slice a0 a1 z9]:=Tree.In.B8 (B:=0) wr ag none aG ⟨T.os,T.tape,T.output,T.size,fun k a7 _=>T.block k a7⟩ (fun r e=>yW);have aR:ag.rangeAt (wr+1) 0 [z0,Y,z2,z3,z4,z5,a3,.slice a0 a1 z9]:=by
    rw[<-cr];have:=Ae (wr.alloc (.cells #[z0,Y,z2,z3,z4,z5,a3,.slice a0 a1 z9] 43)) [z0,Y,z2,z3,z4,z5,a3,.slice a0 a1 z9] 43;exact Z1z
   clear cr d0 d1 d2 d3 d4 d5 d6 d7;refine Gp (gf:=114) (lb:=#[zK (wr+1)]) rfl (fun _ _=>rfl) (N:=s[i].pre.length) (ok:=fun k args X=>∃(h:k<s[i].pre.length) (es:zP),args=#[.agg es.toArray]/\Bo X n s[i].pre[k] es) (Kp:=Cg n B (ag+2))
    ?it (fun k args X ⟨_,es,e,_⟩=>yS) Cg.trans (fun X kk bi b1 h1 h2 h3 h4=>Cg.put h3 h4 h2 b1)
    (fun k X=>G (1+Tree.Bf (s.take i)+k) X/\Ot F W n W (.func (.yield l) #[] #[]) cs (.node lb s) Ds X)
    (fun c X=>c=.ret/\O X/\Ot F W n W (.func (.yield l) #[] #[]) cs (.node lb s) Ds X)
    (fun k=>((a4 _).mono yE).and (an _ yE)) (fun c=>(At.pure _).and ((aI.mono yE).and (an _ yE))) ⟨aV,b5⟩
    (fun k ak X=>∃(hz:Nat) (es:zP) (hc wt E5 aZ hD hE lX lY lZ hG hH ba0 ba1 aY ba2:Value) (a7:k<s[i].pre.length),ak={tmps:=#[.func (.yield l) #[] #[],.pointer (some ⟨F,0,none⟩),.pointer (some ⟨W,0,none⟩),u3,.pointer (some ⟨wr,0,none⟩),.pointer (some ⟨hz,0,none⟩),hc,wt,E5,aZ,hD,.slice (some ⟨b,o,none⟩) s c,.int .i64 s,.int .i64 i,hE,lX,lY,lZ,hG,.agg es.toArray,hH,ba0,ba1,aY,ba2],defers:=[]}/\X.rangeAt hz 0 es/\Bo X n s[i].pre[k] es/\hz<X.heap.size) ?hAx ?assign ?body ?done ?stop
   case it=>
    intro aT kk aM aN H ay bb aO aP b0 aL;have:=aU s[i] (Zat _) [z0,Y,z2,z3,z4,z5,a3,.slice a0 a1 z9] aT kk (wr+1) n B (ag+2) aM aN H vS (aS.below (ay.mono yE)) (Aa aR ay yE) (.inr yE) aK yE yE aO aP
     (fun k X es h1 h2 h3=>b0 k X _ h1 ⟨h1,es,rfl,h2⟩ h3) aL
    rw[Tree.Dx];exact this
   case hAx=>
    exact Z1d
   case assign=>
    rintro kk k args X K a7 ⟨bdn,fW⟩ ⟨nz,es,rfl,lg⟩ J;obtain⟨a9,ab,ac,ad,ai,a5,al,ae,af,ah,rfl⟩:=Bo.eight lg;refine Z0y ?_;gi_wp2_with fail
    have b2:Below X X (X.alloc (.cells #[a9,ab,ac,ad,ai,a5,al,.slice ae af ah] 43)):=(Zai _ _).alloc (Zab _) _;refine J _ _ ((Zdc _ _).from _) (Cg.below b2 (Zab _)) ⟨(a4 _).new bdn _,(an _ (Zab _)).new fW _⟩ ⟨X,[a9,ab,ac,ad,ai,a5,al,.slice ae af ah],_,_,_,_,_,_,_,_,_,_,_,_,_,_,_,nz,rfl,Ae X [a9,ab,ac,ad,ai,a5,al,.slice ae af ah] _,?_,yF⟩;exact Z2L
   case body=>
    rintro kk k ak X a7 bk ⟨bdn,fW⟩ ⟨hz,es,hc,wt,E5,aZ,hD,hE,lX,lY,lZ,hG,hH,ba0,ba1,aY,ba2,nz,rfl,mh,lg,be⟩;obtain⟨a9,ab,ac,ad,ai,a5,al,ae,af,ah,rfl⟩:=Bo.eight lg;have d0:=mh 0 _ rfl;have d1:=mh 1 _ rfl;have d2:=mh 2 _ rfl;have d3:=mh 3 _ rfl;have d4:=mh 4 _ rfl;have d5:=mh 5 _ rfl;have d6:=mh 6 _ rfl;have d7:=mh 7 _ rfl;simp only[Zac]at d0 d1 d2 d3 d4 d5 d6 d7;exact Z0u
   case done=>
    exact Z0V
   case stop=>
    exact Z1m
  exact Z38
end
section
open Tryz Go.RowKit Go.Shelf
attribute [local go_sem] Oper.semAt_some
def Ary (n:Nat) (t:Rx) (k:Nat) (args:Array Value) (X:zN):Prop:=∃(h:k<t.pre) (es:zP),args=#[.agg es.toArray]/\Bo X n t.pre[k] es
theorem Vb (t:Rx) (cs:zP) (w:zN) (n B A:Nat) (O:t.size<=1000000) (F:Bo w n t cs) (G:w.rangeAt A 0 cs) (T:A<n\/B<=A) (J:n<=B) (a2:B<=w):
  Iter prog 114 #[zK A] t.pre (Ary n t) (Cg n B (w+2)) w:=by
 intro m l U a0 W D M Y a1 V h0
 have H:A<w:=by
  obtain⟨_,_,_,_,_,_,_,_,_,_,rfl⟩:=Bo.eight F;exact Bm G yF
 have:=Akk t cs m l A n B (w+2) U a0 W O (F.below (D.mono yE)) (Aa G D H) T J (by have:=D.size;omega) M Y a1 (fun k X es h1 h2 h3=>V k X _ h1 ⟨h1,es,rfl,h2⟩ h3) h0
 rw[Tree.Dx]
 exact this
theorem E3 {w:zN} {B n:Nat} (H:n<=B) (F:n<=w):At B (Below n w):=fun A C row h G D=>h.grown G (Zag F h.size) (fun r e=>by have:=(D r e).1;omega)
theorem Adx {P:Program} {n r:Nat} {fn:Func} {tmps:Array Value} {v:Value} {w W:zN} {Ds:List Nat} (A:fn.results=#[.tmp r]) (G:tmps.getD r undef=v) (U:Below w w W) (F:Ds.Nodup)
  (H:∀D∈Ds,w.heap.size<=D/\W.heap[D]? =some (.deferred (some []))):LeavesInM Fence.wide n P fn tmps (fun e w'=>e=.returned v/\Below w w w') (marks Ds) .returning W:=
 Fy (Z:=Below w w) (E3 (Zab _) (Zab _)) (fun J h=>⟨v,by rw[results_tmp A,G],rfl,h⟩) Ds W F H U
theorem Kx {P:Program} {n r D:Nat} {fn:Func} {tmps:Array Value} {v:Value} {w W:zN} (F:fn.results=#[.tmp r]) (G:tmps.getD r undef=v) (U:Below w w W)
  (H:W.heap[D]? =some (.deferred (some []))) (hle:w<=D):LeavesInM Fence.wide n P fn tmps (fun e w'=>e=.returned v/\Below w w w') [{target:=.collected D,args:=#[]}] .returning W:=
 Adx (Ds:=[D]) F G U yF (fun E A=>by simp at A;subst A;exact⟨hle,H⟩)
structure Ip (w:zN) (p:Nat) (v:Int) (X:zN):Prop where
 box:Boxed X p 3 (.int .i64 v)
 Qe:Below w w X
theorem Ip.B8 {w:zN} {p:Nat} {v:Int} {B:Nat} (J:w<=B):At B (Ip w p v):=fun A C row h F D=>
 ⟨h.box.kept F (fun e=>by obtain⟨_,o,G,H⟩:=D p e.symm;rw[show A.heap[p]? =_ from h.box]at G;cases G;cases H),h.Qe.grown F h.Qe.size (fun r e=>by have:=(D r e).1;omega)⟩
theorem Ip.step {w X:zN} {p n B D C:Nat} {v:Int} (h:Ip w p v X) (A:Int) (hp:w<=p) (F:n<=w) (G:p<B):
  KeepsFrom C X (X.setCell ⟨p,0,none⟩ (.int .i64 A))/\Cg n B D X (X.setCell ⟨p,0,none⟩ (.int .i64 A))/\Ip w p A (X.setCell ⟨p,0,none⟩ (.int .i64 A)):=
 ⟨(Zdd _ _ _).from _,Cg.grown (row:=some p) (grownBy_setCell' X p _) (fun r e=>by cases e;exact⟨_,h.box,by simp[Obj.isCells];omega⟩),h.box.set _,h.Qe.setCell (p:=⟨p,0,none⟩) hp _⟩
theorem Iz (t:Rx) (cs:zP) (w:zN) (n:Nat) (O:t.size<=10000) (ah:n<=w) (D:Bo w n t cs):
  Calls prog 52 #[.agg cs.toArray] w fun e w'=>e=.returned (.bool true)/\Below w w w':=by
 obtain⟨z0,b9,z2,z3,z4,z5,cc,bg,bk,z9,rfl⟩:=Bo.eight D
 refine Z4f ?_
 refine Zhp func52 rfl trivial ?_ rfl
 simp only[ntmps52,Zfk,Zao,Zav,Nat.reduceAdd,Nat.reduceSub,Zcb,Zcc,Zff,Zdl,Zau,Zas]
 refine Zii.2 ?_
 go_wp2_with fail
 go_step3
 go_wp2_with fail
 go_step3
 go_wp2_with fail
 refine Z3L ?_
 intro ag cr
 go_wp2_with fail
 have U:ag.heap.size=w+3:=xK
 have A:Below w w ag:=sW
 have M:ag.rangeAt (w+2) 0 [z0,b9,z2,z3,z4,z5,cc,.slice bg bk z9]:=by
  rw[<-cr];have:=Ae ((w.alloc (.cells #[z0,b9,z2,z3,z4,z5,cc,.slice bg bk z9] 43)).alloc (.cells #[zE] 3)) [z0,b9,z2,z3,z4,z5,cc,.slice bg bk z9] 43;rwa[Zaq,Zaq]at this
 have G:Boxed ag (w+1) 3 (.int .i64 0):=by
  rw[<-cr];have:=(Zco (w.alloc (.cells #[z0,b9,z2,z3,z4,z5,cc,.slice bg bk z9] 43)) 3 (.int .i64 0)).alloc (.cells #[z0,b9,z2,z3,z4,z5,cc,.slice bg bk z9] 43);exact Z1z
 have H:=D.below (A.mono ah)
 clear cr
 refine(Zii (n:=5)).1 (Gp (gf:=114) (lb:=#[zK (w+2)]) rfl (fun _ _=>rfl)
  (Vb t _ ag n (w+2) (w+2) yE H M (.inr (Zab _)) yE yE) (fun k args X ⟨_,es,e,_⟩=>yS) Cg.trans (fun X kk T F h1 h2 h3 h4=>Cg.put h3 h4 h2 F)
  (fun k X=>Ip w (w+1) k X) (fun _ _=>False) (fun k=>Ip.B8 yE) (fun c=>At.pure _) ⟨G,A⟩
  (fun _ ak _=>∃v,ak={tmps:=#[.agg #[z0,b9,z2,z3,z4,z5,cc,.slice bg bk z9],.pointer (some ⟨w,0,none⟩),.bool false,.pointer (some ⟨w+1,0,none⟩),.agg #[z0,b9,z2,z3,z4,z5,cc,.slice bg bk z9],.func (.func 114) #[] #[zK (w+2)],v,undef,undef,undef,undef,undef,undef],defers:=[]})
  (fun k ak=>At.pure _) ?assign ?body ?done ?stop)
 case assign=>
  exact Z2C
 case body=>
  exact Z0L
 case done=>
  exact Z1x
 case stop=>
  exact Z1Z
theorem Aam (t:Rx) (cs:zP) (w:zN) (n:Nat) (bp:t.size<=10000) (ah:n<=w) (b8:Bo w n t cs):
  Calls prog 51 #[.agg cs.toArray] w fun e w'=>e=.returned (.int .i64 t.size)/\Below w w w':=by
 obtain⟨z0,b9,z2,z3,z4,z5,cc,bg,bk,z9,rfl⟩:=Bo.eight b8
 have D:Below w w (w.alloc (.cells #[z0,b9,z2,z3,z4,z5,cc,.slice bg bk z9] 43)):=(Zai _ _).alloc (Zab _) _
 have iz:=b8.below (D.mono ah)
 refine Z4U ?_
 intro df oy
 refine Z4f ?_
 refine Zhp func51 rfl trivial ?_ rfl
 simp only[ntmps51,Zfk,Zao,Zav,Nat.reduceAdd,Nat.reduceSub,Zcb,Zcc,Zff,Zdl,Zau,Zas]
 refine Zii.2 ?_
 go_wp2_with fail
 refine Z4z ?_
 rintro e a8 ⟨rfl,A⟩
 rw[oy]at A
 have b7:=Aa df A yE
 have M:=iz.below (A.mono yE)
 have G:=A.size
 rw[oy]at G
 have c7:Below w w a8:=D.trans (A.mono yE)
 refine Z0n ?_
 intro d0 d1 d2 d3 d4
 refine Z57 ?_
 intro d5 d6 d7
 simp only[Zac]at d0 d1 d2 d3 d4 d5 d6 d7
 have H:w.heap.size<a8:=yE
 clear df oy D iz A
 go_wp2_with fail
 refine Z3L ?_
 intro ag cr
 go_wp2_with fail
 refine Z2T ?_
 intro re al yv kx vj
 clear cr
 refine(Zii (n:=5)).1 (Gp (gf:=114) (lb:=#[zK (a8+1)]) rfl (fun _ _=>rfl)
  (Vb t _ ag n (a8+1) (a8+1) yE vj yv (.inr (Zab _)) yE yE) (fun k args X ⟨_,es,e,_⟩=>yS) Cg.trans (fun X kk O F h1 h2 h3 h4=>Cg.put h3 h4 h2 F)
  (fun k X=>Ip w a8 k X) (fun _ _=>False) (fun k=>Ip.B8 yE) (fun c=>At.pure _) ⟨kx,al⟩
  (fun _ ak _=>∃v,ak={tmps:=#[.agg #[z0,b9,z2,z3,z4,z5,cc,.slice bg bk z9],.pointer (some ⟨w,0,none⟩),.int .i64 0,.pointer (some ⟨a8,0,none⟩),.agg #[z0,b9,z2,z3,z4,z5,cc,.slice bg bk z9],.bool true,.bool false,.agg #[z0,b9,z2,z3,z4,z5,cc,.slice bg bk z9],.func (.func 114) #[] #[zK (a8+1)],v,undef,undef,undef],defers:=[]})
  (fun k ak=>At.pure _) ?assign ?body ?done ?stop)
 case assign=>
  exact Z2C
 case body=>
  exact Z0L
 case done=>
  exact Z1X
 case stop=>
  exact Z1Z
end
section
open Tryz Go.RowKit Go.Shelf
def Mi (p:Nat->Bool):Nat->Nat->Option Nat
 | _,0=>none
 | i,k+1=>if p i then some i else Mi p (i+1) k
def E8 (p:Nat->Bool) (n:Nat):Int:=match Mi p 0 n with | some i=>i | none=> -1
theorem Sh {p:Nat->Bool}:∀(k i j:Nat),j<k->(∀t,t<j->p (i+t)=false)->p (i+j)=true->Mi p i k=some (i+j)
 | k+1,i,0,_,_,h=>by simp only[Mi];rw[if_pos yV];simp
 | k+1,i,j+1,D,A,h=>by
  simp only[Mi];rw[if_neg (by have:=A 0 yE;simp only[Zaf]at this;simp[this])];rw[Sh k (i+1) j yE (fun t F=>by have:=A (t+1) yE;rwa[show i+1+t=i+(t+1)from yE]) (by rwa[show i+1+j=i+(j+1)from yE])];congr 1;omega
theorem Si {p:Nat->Bool}:∀(k i:Nat),(∀t,t<k->p (i+t)=false)->Mi p i k=none
 | 0,_,_=>rfl
 | k+1,i,h=>by
  simp only[Mi];rw[if_neg (by have:=h 0 yE;simp only[Zaf]at this;simp[this])];exact Si k (i+1) (fun t A=>by have:=h (t+1) yE;rwa[show i+1+t=i+(t+1)from yE])
theorem F0 {p:Nat->Bool} {n j:Nat} (D:j<n) (A:∀t,t<j->p t=false) (h:p j=true):E8 p n=j:=by
 have:=Sh n 0 j D (fun t F=>by simpa using A t F) yV;simp[E8,this]
theorem Hd {p:Nat->Bool} {n:Nat} (h:∀t,t<n->p t=false):E8 p n= -1:=by
 have:=Si n 0 (fun t A=>by simpa using h t A);simp[E8,this]
theorem Ky {p:Nat->Bool} {n:Nat}:(decide (0<=E8 p n))=(List.range n).any p:=by
 by_cases h:∃j,j<n/\p j=true
 ·obtain⟨j,G,hp⟩:=h
  have H:(List.range n).any p=true:=Zdh.2 ⟨j,Zfd.2 G,hp⟩;rw[H];have:∃m,m<n/\p m=true/\∀t,t<m->p t=false:=by
   clear H
   induction j using Nat.strongRecOn with
   | _ j O=>
    by_cases h2:∃t,t<j/\p t=true
    ·obtain⟨t,A,D⟩:=h2;exact O t A yE D
    exact⟨j,G,hp,fun t A=>by cases D:p t with
     | false=>rfl
     | true=>exact absurd ⟨t,A,D⟩ h2⟩
  obtain⟨m,hm,M,J⟩:=this;rw[F0 hm J M];simp
 have F:∀t,t<n->p t=false:=fun t A=>by cases D:p t with
  | false=>rfl
  | true=>exact absurd ⟨t,A,D⟩ h
 rw[Hd F];have:(List.range n).any p=false:=List.any_eq_false.2 (fun t A=>by simp[F t (Zfd.1 A)]);rw[this];rfl
def Bs (w:zN) (n K:Nat) (a:zO) (A:List (List Value)):Prop:=A=[]\/∃b o,a=some ⟨b,o,none⟩/\b<n/\∀i (h:i<A.length),w.rangeAt b (o+i*K) A[i]/\A[i].length=K
theorem Bs.below {w w':zN} {n m K:Nat} {a:zO} {D:List (List Value)} (h:Bs w n K a D) (g:Below m w w') (F:n<=m):Bs w' n K a D:=
 h.imp id fun⟨b,o,e,U,A⟩=>⟨b,o,e,U,fun i h=>⟨Aa (A i h).1 g yE,(A i h).2⟩⟩
theorem Bs.mono {w:zN} {n m K:Nat} {a:zO} {A:List (List Value)} (h:Bs w n K a A) (F:n<=m):Bs w m K a A:=
 h.imp id fun⟨b,o,e,U,D⟩=>⟨b,o,e,yE,D⟩
theorem Abl (gf:Nat) (lb:Array Value) (Y:∀args w,(callFunc gf args).run prog w=.ok (.enter gf args) w) (a:zO) (cap:Nat) (ai:List (List Value)) (p:Nat->Bool) (w:zN) (n:Nat) (O:n<=w.heap.size) (hlen:ai.length<=1000000)
  (G:Bs w n 8 a ai) (hC:∀i (h:i<ai.length) X,Below w w X->Calls prog gf (#[.agg ai[i].toArray]++lb) X fun e H=>e=.returned (.bool (p i))/\Below X X H):
  Calls prog 303 #[.slice a ai cap,.func (.func gf) #[] lb] w fun e w'=>e=.returned (.int .i64 (E8 p ai))/\Below w w w':=by
 go_enter func303,ntmps303
 go_wp2_with fail
 go_loopw [8] (fun v wr=>∃i:Nat,i<=ai.length/\v=.int .i64 i/\(∀t,t<i->p t=false)/\Below w w wr) (fun v _=>ai.length - (intOf v).toNat)
 case atStart=>exact⟨0,Zap _,rfl,fun t J=>yE,Zai _ _⟩
 case round=>
  obtain⟨i,M,rfl,F,U⟩:=hrel;have qa:=Zaa F;clear F;by_cases ao:i<ai.length
  ·have W:(i:Int) <ai.length:=by omega
   rcases G with e | ⟨b,o,rfl,T,A⟩
   ·rw[e]at ao;simp at ao
   obtain⟨h1,h2⟩:=A i ao;have dn:=hC i ao wr U;obtain⟨v0,v1,v2,v3,v4,v5,v6,v7,D⟩:∃v0 v1 v2 v3 v4 v5 v6 v7,ai[i]=[v0,v1,v2,v3,v4,v5,v6,v7]:=by
    match ai[i],h2 with
    | [v0,v1,v2,v3,v4,v5,v6,v7],_=>exact⟨_,_,_,_,_,_,_,_,rfl⟩
   rw[D]at h1 dn;refine Z3d ?_;intro d0 d1;have d2:=Aa h1 U yE 2 _ rfl;have d3:=Aa h1 U yE 3 _ rfl;have d4:=Aa h1 U yE 4 _ rfl;have d5:=Aa h1 U yE 5 _ rfl;have d6:=Aa h1 U yE 6 _ rfl;have d7:=Aa h1 U yE 7 _ rfl;simp only[Zaf]at d0;have V:=Zaa A;clear A h1 h2 D hC;go_wp2_with fail
   refine Z1s ?_;intro a8 aa c7;cases hp:p i with
   | true=>
    have dw:=Zaa hp;clear hp;go_wp2_with fail
    go_ret;exact⟨wT,c7⟩
   | false=>
    have dw:=Zaa hp;clear hp;go_wp2_with fail
    go_roundw
    case rel=>exact⟨i+1,yE,yK,fun t J=>by
     by_cases e:t=i
     ·subst e;exact dw.out
     exact qa.out t yE,c7⟩
    case measure=>simp[intOf];omega
  exact Z0M
theorem Ag6 (gf:Nat) (lb:Array Value) (G:∀args w,(callFunc gf args).run prog w=.ok (.enter gf args) w) (a:zO) (cap:Nat) (ai:List (List Value)) (p:Nat->Bool) (w:zN) (n:Nat) (D:n<=w.heap.size) (hlen:ai.length<=1000000)
  (A:Bs w n 8 a ai) (hC:∀i (h:i<ai.length) X,Below w w X->Calls prog gf (#[.agg ai[i].toArray]++lb) X fun e F=>e=.returned (.bool (p i))/\Below X X F):
  Calls prog 285 #[.slice a ai cap,.func (.func gf) #[] lb] w fun e w'=>e=.returned (.bool ((List.range ai).any p))/\Below w w w':=by
 go_enter func285,ntmps285
 go_wp2_with fail
 refine(Abl gf lb G a cap ai p w n D hlen A hC).mono ?_
 exact Z0S
theorem T3 (gf:Nat) (lb:Array Value) (a3:∀args w,(callFunc gf args).run prog w=.ok (.enter gf args) w) (a:zO) (cap:Nat) (ai:List (List Value)) (p:Nat->Bool) (w:zN) (n:Nat) (Y:n<=w.heap.size) (hlen:ai.length<=1000000)
  (J:Bs w n 2 a ai) (hC:∀i (h:i<ai.length) X,Below w w X->Calls prog gf (#[.agg ai[i].toArray]++lb) X fun e T=>e=.returned (.bool (p i))/\Below X X T):
  Calls prog 140 #[.slice a ai cap,.func (.func gf) #[] lb] w fun e w'=>e=.returned (.int .i64 (E8 p ai))/\Below w w w':=by
 go_enter func140,ntmps140
 go_wp2_with fail
 go_loopw [8] (fun v wr=>∃i:Nat,i<=ai.length/\v=.int .i64 i/\(∀t,t<i->p t=false)/\Below w w wr) (fun v _=>ai.length - (intOf v).toNat)
 case atStart=>exact⟨0,Zap _,rfl,fun t V=>yE,Zai _ _⟩
 case round=>
  obtain⟨i,W,rfl,H,U⟩:=hrel;have qa:=Zaa H;clear H;by_cases ao:i<ai.length
  ·have a2:(i:Int) <ai.length:=by omega
   rcases J with e | ⟨b,o,rfl,a0,A⟩
   ·rw[e]at ao;simp at ao
   obtain⟨h1,h2⟩:=A i ao;have F:=hC i ao wr U;obtain⟨v0,v1,G⟩:∃v0 v1,ai[i]=[v0,v1]:=by
    match ai[i],h2 with
    | [v0,v1],_=>exact⟨_,_,rfl⟩
   rw[G]at h1 F;refine Z1c ?_;intro d0 d1;have a1:=Zaa A;clear A h1 h2 G hC;go_wp2_with fail
   refine F.mono ?_;rintro e M ⟨rfl,O⟩;have D:Below w w M:=U.trans (O.mono U.size);cases hp:p i with
   | true=>
    have dw:=Zaa hp;clear hp;go_wp2_with fail
    go_ret;exact⟨wT,D⟩
   | false=>
    have dw:=Zaa hp;clear hp;go_wp2_with fail
    go_roundw
    case rel=>exact⟨i+1,yE,yK,fun t V=>by
     by_cases e:t=i
     ·subst e;exact dw.out
     exact qa.out t yE,D⟩
    case measure=>simp[intOf];omega
  exact Z0M
theorem Yx (gf:Nat) (lb:Array Value) (G:∀args w,(callFunc gf args).run prog w=.ok (.enter gf args) w) (a:zO) (cap:Nat) (ai:List (List Value)) (p:Nat->Bool) (w:zN) (n:Nat) (D:n<=w.heap.size) (hlen:ai.length<=1000000)
  (A:Bs w n 2 a ai) (hC:∀i (h:i<ai.length) X,Below w w X->Calls prog gf (#[.agg ai[i].toArray]++lb) X fun e F=>e=.returned (.bool (p i))/\Below X X F):
  Calls prog 179 #[.slice a ai cap,.func (.func gf) #[] lb] w fun e w'=>e=.returned (.bool ((List.range ai).any p))/\Below w w w':=by
 go_enter func179,ntmps179
 go_wp2_with fail
 refine(T3 gf lb G a cap ai p w n D hlen A hC).mono ?_
 exact Z0S
theorem Ag4 (gf:Nat) (lb:Array Value) (Y:∀args w,(callFunc gf args).run prog w=.ok (.enter gf args) w) (a:zO) (cap:Nat) (ai:List (List Value)) (p:Nat->Bool) (w:zN) (n:Nat) (O:n<=w.heap.size) (hlen:ai.length<=1000000)
  (G:Bs w n 16 a ai) (hC:∀i (h:i<ai.length) X,Below w w X->Calls prog gf (#[.agg ai[i].toArray]++lb) X fun e H=>e=.returned (.bool (p i))/\Below X X H):
  Calls prog 70 #[.slice a ai cap,.func (.func gf) #[] lb] w fun e w'=>e=.returned (.int .i64 (E8 p ai))/\Below w w w':=by
 go_enter func70,ntmps70
 go_wp2_with fail
 go_loopw [8] (fun v wr=>∃i:Nat,i<=ai.length/\v=.int .i64 i/\(∀t,t<i->p t=false)/\Below w w wr) (fun v _=>ai.length - (intOf v).toNat)
 case atStart=>exact⟨0,Zap _,rfl,fun t J=>yE,Zai _ _⟩
 case round=>
  obtain⟨i,M,rfl,F,U⟩:=hrel;have qa:=Zaa F;clear F;by_cases ao:i<ai.length
  ·have W:(i:Int) <ai.length:=by omega
   rcases G with e | ⟨b,o,rfl,T,A⟩
   ·rw[e]at ao;simp at ao
   obtain⟨h1,h2⟩:=A i ao;have dn:=hC i ao wr U;obtain⟨v0,v1,v2,v3,v4,v5,v6,v7,v8,v9,v10,v11,v12,v13,v14,v15,D⟩:∃v0 v1 v2 v3 v4 v5 v6 v7 v8 v9 v10 v11 v12 v13 v14 v15,ai[i]=[v0,v1,v2,v3,v4,v5,v6,v7,v8,v9,v10,v11,v12,v13,v14,v15]:=by
    match ai[i],h2 with
    | [v0,v1,v2,v3,v4,v5,v6,v7,v8,v9,v10,v11,v12,v13,v14,v15],_=>exact⟨_,_,_,_,_,_,_,_,_,_,_,_,_,_,_,_,rfl⟩
   rw[D]at h1 dn;refine Z3d ?_;intro d0 d1;have d2:=Aa h1 U yE 2 _ rfl;have d3:=Aa h1 U yE 3 _ rfl;have d4:=Aa h1 U yE 4 _ rfl;have d5:=Aa h1 U yE 5 _ rfl;have d6:=Aa h1 U yE 6 _ rfl;have d7:=Aa h1 U yE 7 _ rfl;have d8:=Aa h1 U yE 8 _ rfl;have d9:=Aa h1 U yE 9 _ rfl;have d10:=Aa h1 U yE 10 _ rfl;have d11:=Aa h1 U yE 11 _ rfl;have d12:=Aa h1 U yE 12 _ rfl;have d13:=Aa h1 U yE 13 _ rfl;have d14:=Aa h1 U yE 14 _ rfl;have d15:=Aa h1 U yE 15 _ rfl;simp only[Zaf]at d0;have V:=Zaa A;clear A h1 h2 D hC;go_wp2_with fail
   refine Z1s ?_;intro a8 aa c7;cases hp:p i with
   | true=>
    have dw:=Zaa hp;clear hp;go_wp2_with fail
    go_ret;exact⟨wT,c7⟩
   | false=>
    have dw:=Zaa hp;clear hp;go_wp2_with fail
    go_roundw
    case rel=>exact⟨i+1,yE,yK,fun t J=>by
     by_cases e:t=i
     ·subst e;exact dw.out
     exact qa.out t yE,c7⟩
    case measure=>simp[intOf];omega
  exact Z0M
theorem Sf (gf:Nat) (lb:Array Value) (Y:∀args w,(callFunc gf args).run prog w=.ok (.enter gf args) w) (a:zO) (cap:Nat) (ai:List (List Value)) (p:Nat->Bool) (w:zN) (n:Nat) (O:n<=w.heap.size) (hlen:ai.length<=1000000)
  (G:Bs w n 4 a ai) (hC:∀i (h:i<ai.length) X,Below w w X->Calls prog gf (#[.agg ai[i].toArray]++lb) X fun e H=>e=.returned (.bool (p i))/\Below X X H):
  Calls prog 124 #[.slice a ai cap,.func (.func gf) #[] lb] w fun e w'=>e=.returned (.int .i64 (E8 p ai))/\Below w w w':=by
 go_enter func124,ntmps124
 go_wp2_with fail
 go_loopw [8] (fun v wr=>∃i:Nat,i<=ai.length/\v=.int .i64 i/\(∀t,t<i->p t=false)/\Below w w wr) (fun v _=>ai.length - (intOf v).toNat)
 case atStart=>exact⟨0,Zap _,rfl,fun t J=>yE,Zai _ _⟩
 case round=>
  obtain⟨i,M,rfl,F,U⟩:=hrel;have qa:=Zaa F;clear F;by_cases ao:i<ai.length
  ·have W:(i:Int) <ai.length:=by omega
   rcases G with e | ⟨b,o,rfl,T,A⟩
   ·rw[e]at ao;simp at ao
   obtain⟨h1,h2⟩:=A i ao;have dn:=hC i ao wr U;obtain⟨v0,v1,v2,v3,D⟩:∃v0 v1 v2 v3,ai[i]=[v0,v1,v2,v3]:=by
    match ai[i],h2 with
    | [v0,v1,v2,v3],_=>exact⟨_,_,_,_,rfl⟩
   rw[D]at h1 dn;refine Z3d ?_;intro d0 d1;have d2:=Aa h1 U yE 2 _ rfl;have d3:=Aa h1 U yE 3 _ rfl;simp only[Zaf]at d0;have V:=Zaa A;clear A h1 h2 D hC;go_wp2_with fail
   refine Z1s ?_;intro a8 aa c7;cases hp:p i with
   | true=>
    have dw:=Zaa hp;clear hp;go_wp2_with fail
    go_ret;exact⟨wT,c7⟩
   | false=>
    have dw:=Zaa hp;clear hp;go_wp2_with fail
    go_roundw
    case rel=>exact⟨i+1,yE,yK,fun t J=>by
     by_cases e:t=i
     ·subst e;exact dw.out
     exact qa.out t yE,c7⟩
    case measure=>simp[intOf];omega
  exact Z0M
theorem Ae8 (gf:Nat) (lb:Array Value) (G:∀args w,(callFunc gf args).run prog w=.ok (.enter gf args) w) (a:zO) (cap:Nat) (ai:List (List Value)) (p:Nat->Bool) (w:zN) (n:Nat) (D:n<=w.heap.size) (hlen:ai.length<=1000000)
  (A:Bs w n 4 a ai) (hC:∀i (h:i<ai.length) X,Below w w X->Calls prog gf (#[.agg ai[i].toArray]++lb) X fun e F=>e=.returned (.bool (p i))/\Below X X F):
  Calls prog 90 #[.slice a ai cap,.func (.func gf) #[] lb] w fun e w'=>e=.returned (.bool ((List.range ai).any p))/\Below w w w':=by
 go_enter func90,ntmps90
 go_wp2_with fail
 refine(Sf gf lb G a cap ai p w n D hlen A hC).mono ?_
 exact Z0S
theorem Abk (gf:Nat) (lb:Array Value) (Y:∀args w,(callFunc gf args).run prog w=.ok (.enter gf args) w) (a:zO) (cap:Nat) (ai:List (List Value)) (p:Nat->Bool) (w:zN) (n:Nat) (O:n<=w.heap.size) (hlen:ai.length<=1000000)
  (G:Bs w n 1 a ai) (hC:∀i (h:i<ai.length) X,Below w w X->Calls prog gf (#[(ai[i].headD undef)]++lb) X fun e H=>e=.returned (.bool (p i))/\Below X X H):
  Calls prog 253 #[.slice a ai cap,.func (.func gf) #[] lb] w fun e w'=>e=.returned (.int .i64 (E8 p ai))/\Below w w w':=by
 go_enter func253,ntmps253
 go_wp2_with fail
 go_loopw [8] (fun v wr=>∃i:Nat,i<=ai.length/\v=.int .i64 i/\(∀t,t<i->p t=false)/\Below w w wr) (fun v _=>ai.length - (intOf v).toNat)
 case atStart=>exact⟨0,Zap _,rfl,fun t J=>yE,Zai _ _⟩
 case round=>
  obtain⟨i,M,rfl,F,U⟩:=hrel;have qa:=Zaa F;clear F;by_cases ao:i<ai.length
  ·have W:(i:Int) <ai.length:=by omega
   rcases G with e | ⟨b,o,rfl,T,A⟩
   ·rw[e]at ao;simp at ao
   obtain⟨h1,h2⟩:=A i ao;have dn:=hC i ao wr U;obtain⟨v0,D⟩:∃v0,ai[i]=[v0]:=by
    match ai[i],h2 with
    | [v0],_=>exact⟨_,rfl⟩
   rw[D]at h1 dn;have d0:=Aa h1 U yE 0 _ rfl;simp only[Zaf,Zba]at d0;simp only[List.headD_cons]at dn;have V:=Zaa A;clear A h1 h2 D hC;go_wp2_with fail
   refine Z1s ?_;intro a8 aa c7;cases hp:p i with
   | true=>
    have dw:=Zaa hp;clear hp;go_wp2_with fail
    go_ret;exact⟨wT,c7⟩
   | false=>
    have dw:=Zaa hp;clear hp;go_wp2_with fail
    go_roundw
    case rel=>exact⟨i+1,yE,yK,fun t J=>by
     by_cases e:t=i
     ·subst e;exact dw.out
     exact qa.out t yE,c7⟩
    case measure=>simp[intOf];omega
  exact Z0M
theorem Ag5 (gf:Nat) (lb:Array Value) (G:∀args w,(callFunc gf args).run prog w=.ok (.enter gf args) w) (a:zO) (cap:Nat) (ai:List (List Value)) (p:Nat->Bool) (w:zN) (n:Nat) (D:n<=w.heap.size) (hlen:ai.length<=1000000)
  (A:Bs w n 1 a ai) (hC:∀i (h:i<ai.length) X,Below w w X->Calls prog gf (#[(ai[i].headD undef)]++lb) X fun e F=>e=.returned (.bool (p i))/\Below X X F):
  Calls prog 227 #[.slice a ai cap,.func (.func gf) #[] lb] w fun e w'=>e=.returned (.bool ((List.range ai).any p))/\Below w w w':=by
 go_enter func227,ntmps227
 go_wp2_with fail
 refine(Abk gf lb G a cap ai p w n D hlen A hC).mono ?_
 exact Z0S
end
section
open Tryz Go.RowKit
theorem Bq (w:zN) (o:Obj):Below w w (w.alloc o):=(Zai _ _).alloc (Zab _) _
theorem Ra (w:zN) (cs:zP) (t:TypeId):∀j u,cs[j]? =some u->(w.alloc (.cells cs.toArray t)).cell? ((⟨w,0,none⟩:Addr).add j)=some u:=by
 intro j u h;have A:(⟨w,0,none⟩:Addr).add j=⟨w,0+j,none⟩:=sF;rw[A];exact Ae w cs t j u h
theorem flat_get {α:Type} {K:Nat}:∀(ai:List (List α)) (_:∀cs∈ai,cs.length=K) (i j:Nat) (ae:i<ai) (A:j<K),ai.flatten[i*K+j]? =ai[i][j]?
 | [],_,i,_,ae,_=>by simp at ae
 | c::r,h,0,j,_,A=>by
  have D:=h c yF;simp only[Zdy,Zgl,Zac,Zek];exact Zbp yE
 | c::r,h,i+1,j,ae,A=>by
  have D:=h c yF;have:=flat_get r (fun cs F=>h cs (by simp[F])) i j xE A;simp only[Zdy,Zej];rw[Zee (by rw[D,Zfy];omega),D,<-this];congr 1;rw[Zfy];omega
def Dc (w:zN) (lo:Nat) (e:TypeId) (K:Nat) (v:Value) (ai:List (List Value)):Prop:=
 w.ownsRow lo e K v ai ai.flatten/\∀cs∈ai,cs.length=K
section
variable {w w':zN} {lo K m:Nat} {e:TypeId} {v:Value} {ai:List (List Value)}
theorem Dc.nil (w:zN) (lo:Nat) (e:TypeId) (K:Nat):Dc w lo e K (.slice none 0 0) []:=⟨Zhi w lo e K,yF⟩
theorem Dc.shape (h:Dc w lo e K v ai):∃a c,v=.slice a ai c/\ai.length<=c:=by
 rcases h.1.2 with⟨rfl,h0⟩ | ⟨g,cap,cur,rfl,_,_,A,_⟩
 ·exact⟨none,0,by rw[h0],yE⟩
 exact⟨_,cap,rfl,A⟩
theorem Dc.below (h:Dc w lo e K v ai) (g:Below m w w') (hm:w<=m):Dc w' lo e K v ai:=
 ⟨h.1.kept (Ck none g hm) (by cases A:v.ownBlock<;>simp),h.2⟩
theorem Dc.grown {row:Option Nat} (h:Dc w lo e K v ai) (g:w.grownBy w' row) (A:v.ownBlock=none\/v.ownBlock≠row):Dc w' lo e K v ai:=⟨h.1.kept g A,h.2⟩
theorem Dc.lt (h:Dc w lo e K v ai):∀k,v.ownBlock=some k->lo<=k/\k<w.heap.size:=h.1.lt
theorem Dc.at_ (h:Dc w lo e K v ai):ai=[]\/∃g c,v=.slice (some ⟨g,0,none⟩) ai c/\lo<=g/\g<w.heap.size/\∀i (A:i<ai.length),w.rangeAt g (0+i*K) ai[i]:=by
 rcases h.1.2 with⟨_,h0⟩ | ⟨g,cap,cur,rfl,U,D,J,_,M,O⟩
 ·exact .inl (Zeo.1 h0)
 refine .inr ⟨g,cap,rfl,U,(Zbx.1 D).1,fun i A j u hu=>?_⟩;have G:=h.2 _ (Zat A);have F:j<K:=by rw[<-G];exact(Zeg.1 hu).1
 have h1:=flat_get ai h.2 i j A F;have:=h.1.cells (g:=g) rfl (i*K+j) u (by rw[h1];exact hu);have H:(⟨g,0,none⟩:Addr).add (i*K+j)=⟨g,0+i*K+j,none⟩:=sF;rwa[H]at this
theorem Dc.Ve (h:Dc w lo e K v ai) {a:zO} {n c:Nat} (F:v=.slice a n c):Bs w w K a ai:=by
 rcases h.at_ with h0 | ⟨g,H,h1,_,G,D⟩
 ·exact .inl h0
 rw[F]at h1;cases h1;exact .inr ⟨g,0,rfl,G,fun i A=>⟨D i A,h.2 _ (Zat A)⟩⟩
theorem Dc.snoc {D:Value} {cs:zP} (h:Dc w lo e K v ai) (F:cs=K) (G:w'.ownsRow lo e K D (ai+1) (ai.flatten++cs)):Dc w' lo e K D (ai++[cs]):=
 ⟨by simpa using G,fun x A=>(List.mem_append.1 A).elim (h.2 x) (fun A=>by simp at A;rw[A,F])⟩
end
theorem Du {w:zN} {b b' e size n:Nat} {v:Value} {xs:zP} (h:w.ownsRow b e size v n xs) (U:b'<=b):w.ownsRow b' e size v n xs:=by
 obtain⟨h1,h2⟩:=h;refine⟨h1,h2.imp id ?_⟩;rintro⟨g,cap,cur,a,b,c⟩;exact⟨g,cap,cur,a,yE,c⟩
def Ws {α β:Type} (I:World->(Nat->Prop)->α->β->Prop):Prop:=
 ∀(w w':zN) (S S':zT) (x:α) (c:β),(∀b,S b->w'.heap[b]? =w.heap[b]?)->(∀b,S b->S' b)->I w S x c->I w' S' x c
theorem Cp.toB {α β:Type} {I:World->(Nat->Prop)->α->β->Prop} (hI:Cp I):Ws I:=fun _ _ _ _ _ _ A hm h=>hI.wide (hI.block h A) hm
def Au {α:Type} (I:World->(Nat->Prop)->α->List Value->Prop) (lo:Nat) (e:TypeId) (K:Nat) (w:zN) (l:List α) (v:Value):Prop:=
 ∃ai,Dc w lo e K v ai/\ai.length=l.length/\∀i (h1:i<l.length) (h2:i<ai.length),I w (fun b=>b<w/\some b≠v.ownBlock) l[i] ai[i]
section
variable {α:Type} {I:World->(Nat->Prop)->α->List Value->Prop} {w w':zN} {lo K m:Nat} {e:TypeId} {v:Value} {l:List α}
theorem Au.nil (I:World->(Nat->Prop)->α->List Value->Prop) (w:zN) (lo:Nat) (e:TypeId) (K:Nat):Au I lo e K w [] (.slice none 0 0):=⟨[],Dc.nil w lo e K,rfl,fun i h=>yX⟩
theorem Au.shape (h:Au I lo e K w l v):∃a c,v=.slice a l c/\l.length<=c:=by
 obtain⟨ai,h1,h2,_⟩:=h;rw[<-h2];exact h1.shape
theorem Au.lt (h:Au I lo e K w l v):∀k,v.ownBlock=some k->lo<=k/\k<w.heap.size:=h.choose_spec.1.lt
theorem Au.Aca (hI:Ws I) (h:Au I lo e K w l v) (g:Below m w w') (hm:w<=m):Au I lo e K w' l v:=by
 obtain⟨ai,h1,h2,h3⟩:=h;refine⟨ai,h1.below g hm,h2,fun i a b=>hI _ _ _ _ _ _ (fun k A=>g.block k yE) (fun k A=>⟨Zal A.1 g.size,A.2⟩) (h3 i a b)⟩
theorem Au.below (hI:Cp I) (h:Au I lo e K w l v) (g:Below m w w') (hm:w<=m):Au I lo e K w' l v:=h.Aca hI.toB g hm
theorem Au.alloc (hI:Cp I) (h:Au I lo e K w l v) (o:Obj):Au I lo e K (w.alloc o) l v:=h.below hI ((Zai w w).alloc (Zab _) o) (Zab _)
theorem Au.drewN (hI:Cp I) (h:Au I lo e K w l v) (k:Nat):Au I lo e K (w.drewN k) l v:=by
 obtain⟨ai,h1,h2,h3⟩:=h;refine⟨ai,h1.grown (B5 w k none) (by cases D:v.ownBlock<;>simp),h2,fun i a b=>hI.wide (hI.drewN (h3 i a b) k) fun F A=>⟨by rw[Zhg];exact A.1,A.2⟩⟩
theorem Au.list (hI:Cp I) (h:Au I lo e K w l v):Al I K w (fun b=>b<w) l v:=by
 obtain⟨ai,h1,h2,h3⟩:=h;obtain⟨a,c,rfl,H⟩:=h1.shape;refine⟨a,c,by rw[h2],yE,?_⟩;rcases h1.at_ with h0 | ⟨g,J,F,_,G,A⟩
 ·left;rw[h0]at h2;exact Zeo.1 h2.symm
 cases F;exact .inr ⟨g,0,rfl,G,fun i D=>⟨ai[i]'yE,A i yE,hI.wide (h3 i D yE) fun b U=>U.1⟩⟩
end
variable {P:Program}
theorem L7 {α:Type} {I:World->(Nat->Prop)->α->List Value->Prop} (hI:Ws I) {ops:Array Oper} {rest:List Oper} {o:Oper} {a:Act} {Q:Exit->Act->World->Prop} {w:zN} (a6:o.guard=none) (s x:Operand) (t:TypeId)
  (a2:o.op=.call {callee:=.builtin .append,args:=#[s,x],argTypes:=#[t,t]})
  (lo:Nat) (e:TypeId) (K bytes:Nat) (a4:P.underlying t=some (.slice e)) (ae:(P.info? e).map (fun i=>(i.size,i.bytes,i.zero.map fun z=>z.cells.size))=some (K,bytes,some K)) (J:0<K)
  (l:List α) (v:Value) (Y:a.eval s=v) (G:Au I lo e K w l v) (y:α) (cs:zP) {F:Nat} (V:a.eval x=.slice (some ⟨F,0,none⟩) 1 1) (a8:F=w)
  (hy:I w (fun b=>b<w/\some b≠v.ownBlock) y cs) (a0:cs=K) (h1:∀u∈cs,u.oneCell'=true)
  (h63:l.length+1<=maxLen) (T:(l.length+1)*bytes<=140737488355328) (ij:lo<=w)
  (h:∀ak ax w',Au I lo e K w' (l++[y]) (.slice ak (l+1) ax)->l.length+1<=ax->Below lo w w'->w.grownBy w' v.ownBlock->w.heap.size<w'.heap.size->((Value.slice ak (l+1) ax).ownBlock=v.ownBlock\/∃g,(Value.slice ak (l+1) ax).ownBlock=some g/\w.heap.size<=g)->wpList P ops Q rest (a.put o.dst (.slice ak (l+1) ax)) w'):
  wpList P ops Q (o::rest) a (w.alloc (.cells cs.toArray e)):=by
 subst a8
 obtain⟨ai,g1,g2,g3⟩:=G
 obtain⟨i,z,a7,A,a3,W,a9⟩:∃i z,P.info? e=some i/\i.zero=some z/\i.size=K/\i.bytes=bytes/\z.cells.size=K:=by
  cases hp:P.info? e with
  | none=>rw[hp]at ae;cases ae
  | some i=>
   rw[hp]at ae;simp only[Zaj,Zbb,Zgr]at ae;cases A:i.zero with
   | none=>rw[A]at ae;simp at ae
   | some z=>rw[A]at ae;exact⟨i,z,rfl,A,ae.1,ae.2.1,uH⟩
 have M:=g1.below (Bq w (.cells cs.toArray e)) (Zab _)
 refine wpList_append_own_at _ a6 s x t a2 lo e i z K bytes a4 a7 A a3 W a9 J v ai ai.flatten Y M.1 ⟨w,0,none⟩ 1 1 cs V yE (Ra w cs e) h1 yE (by rw[g2];exact T) yJ ?_
 intro aa w' q1 H ab i3
 have hb:=M.snoc a0 q1
 obtain⟨ak,ax,rfl,aw⟩:=hb.shape
 have hlen:(ai++[cs]).length=l.length+1:=by simp[g2]
 have dr:w.grownBy w' v.ownBlock:=Bn (Zhf w _ _) H
 have a1:=H.size
 rw[Zaq]at a1
 refine Z37 ?_
 intro zy
 have zw:∀(y:α) (D:zP),I w (fun b=>b<w/\some b≠v.ownBlock) y D->I w' (fun b=>b<w'.heap.size/\some b≠(Value.slice ak (ai++[cs]).length ax).ownBlock) y D:=fun y D a5=>
  hI _ _ _ _ _ _ (fun b U=>dr.block b U.1 U.2) (fun b U=>⟨yE,by
   rcases zy with e | ⟨g,e,G⟩
   ·rw[e];exact U.2
   rw[e];intro O;injection O with O;omega⟩) a5
 exact Z12
theorem Am {α:Type} {I:World->(Nat->Prop)->α->List Value->Prop} (hI:Cp I) {ops:Array Oper} {rest:List Oper} {o:Oper} {a:Act} {Q:Exit->Act->World->Prop} {w:zN} (a0:o.guard=none) (s x:Operand) (t:TypeId)
  (V:o.op=.call {callee:=.builtin .append,args:=#[s,x],argTypes:=#[t,t]})
  (lo:Nat) (e:TypeId) (K bytes:Nat) (W:P.underlying t=some (.slice e)) (M:(P.info? e).map (fun i=>(i.size,i.bytes,i.zero.map fun z=>z.cells.size))=some (K,bytes,some K)) (J:0<K)
  (l:List α) (v:Value) (T:a.eval s=v) (O:Au I lo e K w l v) (y:α) (cs:zP) {F:Nat} (H:a.eval x=.slice (some ⟨F,0,none⟩) 1 1) (a1:F=w)
  (hy:I w (fun b=>b<w/\some b≠v.ownBlock) y cs) (U:cs=K) (h1:∀u∈cs,u.oneCell'=true)
  (h63:l.length+1<=maxLen) (G:(l.length+1)*bytes<=140737488355328) (Y:lo<=w)
  (h:∀D A w',Au I lo e K w' (l++[y]) (.slice D (l+1) A)->l.length+1<=A->Below lo w w'->w.grownBy w' v.ownBlock->w.heap.size<w'.heap.size->((Value.slice D (l+1) A).ownBlock=v.ownBlock\/∃g,(Value.slice D (l+1) A).ownBlock=some g/\w.heap.size<=g)->wpList P ops Q rest (a.put o.dst (.slice D (l+1) A)) w'):
  wpList P ops Q (o::rest) a (w.alloc (.cells cs.toArray e)):=
 L7 hI.toB a0 s x t V lo e K bytes W M J l v T O y cs H a1 hy U h1 h63 G Y h
end
section
open Tryz Go.RowKit Go.Shelf
theorem K7 (a b:UInt8):((a.toNat:Int)==(b.toNat:Int))=(a==b):=by
 rw[Zch,Zhn,Zhn];exact⟨fun h=>Zha.1 yE,fun h=>by rw[h]⟩
theorem Tree.In.len {L:Type} {E:L->List Value} {K:Nat} {w:zN} {n:Nat} {t:Tree L} {cs:zP} (A:∀l,(E l).length+1=K) (h:Tree.In E K w n t cs):cs=K:=by
 obtain⟨l,s⟩:=t;obtain⟨_,_,e,_⟩:=h.open;rw[e,Zbj];simpa using A l
theorem Tree.In.rows {L:Type} {E:L->List Value} {K:Nat} {w:zN} {n:Nat} {l:L} {s:List (Tree L)} {cs:zP} (M:∀l,(E l).length+1=K) (h:Tree.In E K w n (.node l s) cs):
  ∃a c A,cs=E l++[.slice a s c]/\s.length<=c/\A.length=s.length/\Bs w n K a A/\∀i (h:i<s.length) (D:i<A.length),Tree.In E K w n s[i] A[i]:=by
 obtain⟨a,c,h1,h2,h3⟩:=h.open
 rcases h3 with rfl | ⟨b,o,rfl,U,F⟩
 ·exact⟨a,c,[],h1,h2,rfl,.inl rfl,fun i h=>yX⟩
 let A:=(List.range s).map fun i=>if h:i<s.length then Classical.choose (F i h)else []
 have J:A.length=s.length:=by simp[A]
 have G:∀i (h:i<s.length) (D:i<A.length),A[i]=Classical.choose (F i h):=fun i h D=>by simp[A,h]
 refine⟨some ⟨b,o,none⟩,c,A,h1,h2,J,.inr ⟨b,o,rfl,U,fun i h=>?_⟩,fun i h D=>?_⟩
 ·have D:i<s.length:=by omega
  rw[G i D h];have H:=Classical.choose_spec (F i D);exact⟨H.1,H.2.len M⟩
 rw[G i h D];exact(Classical.choose_spec (F i h)).2
theorem Aot (k D:UInt8) (v1 v2 v3 v4 v5 v6 v7:Value) (A:Nat) (X:zN) (hp:X.cell? ⟨A,0,none⟩=some (.int .u8 D.toNat)):
  Calls prog 286 #[.agg #[k,v1,v2,v3,v4,v5,v6,v7],zK A] X fun e F=>e=.returned (.bool (k==D))/\Below X X F:=by
 have G:=Jw hp
 go_enter func286,ntmps286
 go_wp2_with fail
 go_ret
 exact⟨by rw[<-K7];rfl,(Zai _ _).alloc (Zab _) _⟩
theorem Ani (d:Nat) (w:zN) (a0 G a2 a3 D b1 b2 F:Int):(Op.equalIn (d+2) 40 (.agg #[.int .u64 a0,.int .u64 G,.int .u64 a2,.int .u64 a3]) (.agg #[.int .u64 D,.int .u64 b1,.int .u64 b2,.int .u64 F])).run prog w=.ok (a0==D&&(G==b1&&(a2==b2&&a3==F))) w:=by
 have hu:prog.underlying 40=some (.array 4 38):=yG;have he:prog.underlying 38=some (.int .u64):=yG;have J:(sizeOf 38).run prog w=.ok 1 w:=by
  have:(prog.info? 38).map (·.size)=some 1:=yG;cases A:prog.info? 38 with
  | none=>simp[A]at this
  | some i=>simp[A]at this;simp[sizeOf,typeInfo,A,this]
 have M:(isAgg 38).run prog w=.ok false w:=by
  unfold isAgg;rw[Zgv,Zig he w];rfl
 have hp:∀(i:Nat) (v0 v1 v2 v3:Value) (v:Value),(#[v0,v1,v2,v3]:Array Value)[i]? =some v->(part 38 #[v0,v1,v2,v3] (i*1)).run prog w=.ok v w:=fun i v0 v1 v2 v3 v h=>by
  simp only[part,Zgv,M,Zgu,Zbd,Zhz,Zba,h,Zgw]
 have A:=fun(a b:Int)=>run_equalIn_int (P:=prog) w d 38 .u64 .u64 a b he
 rw[show d+2=(d+1)+1 from rfl];generalize d+1=d1 at A|-;simp only[Op.equalIn,Zgv,Zig hu,Zgu,J];simp only[Std.Legacy.Range.forIn_eq_forIn_range',Std.Legacy.Range.size,Nat.sub_zero,Nat.add_sub_cancel,Nat.div_one,List.range',List.forIn_cons,List.forIn_nil,Zgv];have H:∀v0 v1 v2 v3:Value,(part 38 #[v0,v1,v2,v3] (0*1)).run prog w=.ok v0 w:=fun v0 v1 v2 v3=>hp 0 v0 v1 v2 v3 v0 rfl
 have U:∀v0 v1 v2 v3:Value,(part 38 #[v0,v1,v2,v3] ((0+1)*1)).run prog w=.ok v1 w:=fun v0 v1 v2 v3=>hp 1 v0 v1 v2 v3 v1 rfl
 have T:∀v0 v1 v2 v3:Value,(part 38 #[v0,v1,v2,v3] ((0+1+1)*1)).run prog w=.ok v2 w:=fun v0 v1 v2 v3=>hp 2 v0 v1 v2 v3 v2 rfl
 have O:∀v0 v1 v2 v3:Value,(part 38 #[v0,v1,v2,v3] ((0+1+1+1)*1)).run prog w=.ok v3 w:=fun v0 v1 v2 v3=>hp 3 v0 v1 v2 v3 v3 rfl
 clear hp J M;cases h0:(a0==D)with
 | false=>simp only[H,Zgu,A,h0,Zcj,Zia,Zgw,Zci]
 | true=>
  simp only[H,Zgu,A,h0,Zck,Zbd,Zhz,Zgw,Zcn,Zgv,U];cases h1:(G==b1)with
  | false=>simp only[Zgu,h1,Zcj,Zia,Zgw,Zci]
  | true=>
   simp only[Zgu,A,h1,Zck,Zbd,Zhz,Zgw,Zcn,Zgv,T];cases h2:(a2==b2)with
   | false=>simp only[Zgu,h2,Zcj,Zia,Zgw,Zci]
   | true=>
    simp only[Zgu,A,h2,Zck,Zbd,Zhz,Zgw,Zcn,Zgv,O];cases h3:(a3==F)<;>simp only[Zgu,h3,Zck,Zcj,Zbd,Zhz,Zia,Zgw]
theorem Mv (w:zN) (a0 F a2 a3 A b1 b2 D:Int):(Op.equalIn 10000 40 (.agg #[.int .u64 a0,.int .u64 F,.int .u64 a2,.int .u64 a3]) (.agg #[.int .u64 A,.int .u64 b1,.int .u64 b2,.int .u64 D])).run prog w=.ok (a0==A&&(F==b1&&(a2==b2&&a3==D))) w:=
 Ani 9998 w a0 F a2 a3 A b1 b2 D
def Uq (s:List Rx) (A:UInt8):Bool:=s.any fun x=>x.Cx==A
theorem St {α:Type} (s:List α) (f:α->Bool):(List.range s).any (fun i=>(s[i]?.map f).getD false)=s.any f:=by
 rw[Zch,Zdh,Zdh];constructor
 ·rintro⟨i,A,h⟩
  rw[Zfd]at A;rw[Zam A]at h;exact⟨s[i],Zat _,yV⟩
 rintro⟨x,D,h⟩;obtain⟨i,A,rfl⟩:=Zem D;exact⟨i,Zfd.2 A,by rw[Zam A];simpa using h⟩
theorem Zz (l:Cc) (s:List Rx) (A:UInt8) (cs:zP) (w:zN) (n:Nat) (a1:n<=w) (hlen:s.length<=1000000) (O:Bo w n (.node l s) cs):
  Calls prog 259 #[.agg cs.toArray,A] w fun e w'=>e=.returned (.bool (Uq s A))/\Below w w w':=by
 obtain⟨a,c,a2,rfl,a6,T,V,a0⟩:=Tree.In.rows (E:=Cc.cells) (K:=8) (fun _=>rfl) O
 simp only[Cc.cells,Zas,Zau]
 obtain⟨D,ba⟩:=zL ((w.alloc (.cells #[l.kind,l.s0,l.s1,l.s2,l.s3,l.mn,l.mx,.slice a s c] 43)).alloc (.cells #[A] 5))
 have F:Below w w D:=by rw[<-ba];exact((Zai _ _).alloc (Zab _) _).alloc yF _
 have a5:D.heap.size=w+2:=xO
 have W:Boxed D (w+1) 5 (.int .u8 A.toNat):=by
  rw[<-ba];have:=Zco (w.alloc (.cells #[l.kind,l.s0,l.s1,l.s2,l.s3,l.mn,l.mx,.slice a s c] 43)) 5 (.int .u8 A.toNat);exact Z1z
 have H:=Ag6 286 #[zK (w+1)] (fun _ _=>rfl) a c a2 (fun i=>(s[i]?.map fun x=>x.Cx==A).getD false) D n yE yE (V.below F a1)
  (fun i h X a4=>by
   have J:=a0 i yE h;have a3:i<s:=yE;rw[Zam a3];generalize s[i]=t at J;obtain⟨l2,s2⟩:=t;obtain⟨_,_,e,_⟩:=J.open;rw[e];exact Aot l2.kind A _ _ _ _ _ _ _ (w+1) X ((a4.cell (p:=⟨w+1,0,none⟩) yJ).trans W.cell))
 rw[T,St]at H
 have Y:∀G,Below D D G->Below w w G:=fun G h=>F.trans (h.mono F.size)
 clear W a5 F V a0 T O
 subst ba
 go_enter func259,ntmps259
 go_wp2_with fail
 refine H.mono ?_
 rintro e G ⟨rfl,M⟩
 have U:=Y _ M
 clear Y M H
 exact Z3a
theorem Akl (a b:Int) (w:zN) (h:Fc a b):Calls prog 260 #[a,b] w fun e w'=>e=.returned (.bool true)/\w=w':=by
 obtain⟨h1,h2,h3,h4⟩:=h;have A:(b==1&&a==1)=false:=by rw[Bool.and_eq_false_iff,Zaz,Zaz];omega
 rcases h4 with rfl | ⟨h5,h6,h7⟩
 ·go_enter func260,ntmps260
  exact Z28
 have q1:(b== -1)=false:=by rw[Zaz];omega
 by_cases e:a=1
 ·have D:(b==1)=false:=by rw[Zaz];omega
  clear A;subst e;go_enter func260,ntmps260
  exact Z28
 have D:(a==1)=false:=by rw[Zaz];omega
 clear A;go_enter func260,ntmps260
 exact Z28
end
section
open Tryz Go.RowKit Go.Shelf
theorem Af {w:zN} (o:Obj):Below w w (w.alloc o):=(Zai _ _).alloc (Zab _) _
theorem Zg (l:Cc) (cs:zP) (w:zN) (n:Nat) (A:Bo w n (.node l []) cs) (h1:l.kind=1) (h2:l.blank) (h3:l.plain):
  Calls prog 234 #[.agg cs.toArray] w fun e w'=>e=.returned (.bool true)/\Below w w w':=by
 obtain⟨k,s0,s1,s2,s3,mn,mx⟩:=l
 obtain⟨rfl,rfl,rfl,rfl⟩:=h2
 obtain⟨rfl,rfl⟩:=h3
 obtain rfl:k=1:=h1
 obtain⟨a,c,rfl,-,-⟩:=A.open
 simp only[Cc.cells,Zas,Zau]
 have D:=Mv
 go_enter func234,ntmps234
 exact Z0N
theorem Adh (l:Cc) (cs:zP) (w:zN) (n:Nat) (A:Bo w n (.node l []) cs) (h1:l.kind=2) (h2:¬l.blank) (h3:l.plain):
  Calls prog 234 #[.agg cs.toArray] w fun e w'=>e=.returned (.bool true)/\Below w w w':=by
 obtain⟨k,s0,s1,s2,s3,mn,mx⟩:=l
 obtain⟨rfl,rfl⟩:=h3
 obtain rfl:k=2:=h1
 obtain⟨a,c,rfl,-,-⟩:=A.open
 simp only[Cc.cells,Zas,Zau]
 have F:∀w,(Op.equalIn 10000 40 (.agg #[s0,s1,s2,s3]) (.agg #[zI,zI,zI,zI])).run prog w=.ok false w:=fun w=>by
  rw[Mv];congr 1;cases D:((s0.toNat:Int)==0&&((s1.toNat:Int)==0&&((s2.toNat:Int)==0&&(s3.toNat:Int)==0)))with
  | false=>rfl
  | true=>
   simp only[Zcg,Zhn]at D;exact absurd ⟨Zgx.1 yJ,Zgx.1 yJ,Zgx.1 yJ,Zgx.1 yJ⟩ h2
 clear h2
 go_enter func234,ntmps234
 exact Z0N
theorem Adi (l:Cc) (s:List Rx) (cs:zP) (w:zN) (n:Nat) (F:n<=w) (hlen:s.length<=1000000) (H:Bo w n (.node l s) cs) (h1:l.kind=3) (h2:l.blank) (h3:l.plain) (h4:2<=s.length) (h5:Uq s 1=false) (h6:Uq s 3=false):
  Calls prog 234 #[.agg cs.toArray] w fun e w'=>e=.returned (.bool true)/\Below w w w':=by
 obtain⟨k,s0,s1,s2,s3,mn,mx⟩:=l
 obtain⟨rfl,rfl,rfl,rfl⟩:=h2
 obtain⟨rfl,rfl⟩:=h3
 obtain rfl:k=3:=h1
 have G:=H
 obtain⟨a,c,rfl,-,-⟩:=H.open
 simp only[Cc.cells,Zas,Zau,Zes]at G|-
 have a4:(1:Int) <s.length:=yE
 have a5:=Mv
 have bc:∀W,Below w w W->Calls prog 259 #[.agg #[.int .u8 3,zI,zI,zI,zI,zE,zE,.slice a s c],.int .u8 1] W fun e w'=>e=.returned (.bool false)/\Below W W w':=fun W D=>by
  rw[<-h5];exact Zz ⟨3,0,0,0,0,0,0⟩ _ 1 _ W n (Zag F D.size) hlen (G.below (D.mono F))
 have q1:∀W,Below w w W->Calls prog 259 #[.agg #[.int .u8 3,zI,zI,zI,zI,zE,zE,.slice a s c],.int .u8 3] W fun e w'=>e=.returned (.bool false)/\Below W W w':=fun W D=>by
  rw[<-h6];exact Zz ⟨3,0,0,0,0,0,0⟩ _ 3 _ W n (Zag F D.size) hlen (G.below (D.mono F))
 have c0:Below w w (w.alloc (.cells #[.int .u8 3,zI,zI,zI,zI,zE,zE,.slice a s c] 43)):=Af _
 have df:=Ae w [.int .u8 3,zI,zI,zI,zI,zE,zE,.slice a s c] 43
 have gh:w.heap.size< (w.alloc (.cells #[.int .u8 3,zI,zI,zI,zI,zE,zE,.slice a s c] 43)).heap.size:=yF
 clear H G
 go_enter func234,ntmps234
 go_wp2_with fail
 refine Z2B ?_
 intro a8 zt aa b7 bje bjf bjg bjh bji bjj bjk bjl
 go_wp2_with fail
 refine(q1 _ aa).mono ?_
 rintro e a3 ⟨rfl,J⟩
 have M:=aa.trans (J.mono aa.size)
 have A:=Aa b7 J (by exact Zal gh zt.size)
 have a1:=A 0 _ rfl
 have a2:=A 1 _ rfl
 have O:=A 2 _ rfl
 have T:=A 3 _ rfl
 have U:=A 4 _ rfl
 have V:=A 5 _ rfl
 have Y:=A 6 _ rfl
 have a0:=A 7 _ rfl
 simp only[Zac]at a1 a2 O T U V Y a0
 go_wp2_with fail
 go_ret
 exact⟨rfl,M⟩
theorem Adj (l:Cc) (s:List Rx) (cs:zP) (w:zN) (n:Nat) (F:n<=w) (hlen:s.length<=1000000) (A:Bo w n (.node l s) cs) (h1:l.kind=4) (h2:l.blank) (h3:l.plain) (h4:2<=s.length) (h5:Uq s 4=false):
  Calls prog 234 #[.agg cs.toArray] w fun e w'=>e=.returned (.bool true)/\Below w w w':=by
 obtain⟨k,s0,s1,s2,s3,mn,mx⟩:=l
 obtain⟨rfl,rfl,rfl,rfl⟩:=h2
 obtain⟨rfl,rfl⟩:=h3
 obtain rfl:k=4:=h1
 have D:=A
 obtain⟨a,c,rfl,-,-⟩:=A.open
 simp only[Cc.cells,Zas,Zau,Zes]at D|-
 have H:(1:Int) <s.length:=yE
 have J:=Mv
 have bc:∀W,Below w w W->Calls prog 259 #[.agg #[.int .u8 4,zI,zI,zI,zI,zE,zE,.slice a s c],.int .u8 4] W fun e w'=>e=.returned (.bool false)/\Below W W w':=fun W G=>by
  rw[<-h5];exact Zz ⟨4,0,0,0,0,0,0⟩ _ 4 _ W n (Zag F G.size) hlen (D.below (G.mono F))
 have c0:Below w w (w.alloc (.cells #[.int .u8 4,zI,zI,zI,zI,zE,zE,.slice a s c] 43)):=Af _
 have df:=Ae w [.int .u8 4,zI,zI,zI,zI,zE,zE,.slice a s c] 43
 have gh:w.heap.size< (w.alloc (.cells #[.int .u8 4,zI,zI,zI,zI,zE,zE,.slice a s c] 43)).heap.size:=yF
 clear A D
 go_enter func234,ntmps234
 exact Z3W
theorem Zf (l:Cc) (x:Rx) (cs:zP) (w:zN) (n:Nat) (G:n<=w) (hlen:1<=1000000) (A:Bo w n (.node l [x]) cs) (h1:l.kind=6) (h2:l.blank) (h3:l.plain):
  Calls prog 234 #[.agg cs.toArray] w fun e w'=>e=.returned (.bool true)/\Below w w w':=by
 obtain⟨k,s0,s1,s2,s3,mn,mx⟩:=l
 obtain⟨rfl,rfl,rfl,rfl⟩:=h2
 obtain⟨rfl,rfl⟩:=h3
 obtain rfl:k=6:=h1
 have D:=A
 obtain⟨a,c,rfl,-,-⟩:=A.open
 simp only[Cc.cells,Zas,Zau,Zes]at D|-
 have H:=Mv
 have F:Below w w (w.alloc (.cells #[.int .u8 6,zI,zI,zI,zI,zE,zE,.slice a 1 c] 43)):=Af _
 have J:=Ae w [.int .u8 6,zI,zI,zI,zI,zE,zE,.slice a 1 c] 43
 have M:w.heap.size< (w.alloc (.cells #[.int .u8 6,zI,zI,zI,zI,zE,zE,.slice a 1 c] 43)).heap.size:=yF
 clear A D
 go_enter func234,ntmps234
 go_wp2_with fail
 go_ret
 exact⟨rfl,F⟩
theorem Adg (l:Cc) (x:Rx) (cs:zP) (w:zN) (n:Nat) (F:n<=w) (hlen:1<=1000000) (A:Bo w n (.node l [x]) cs) (h1:l.kind=5) (h2:l.blank) (h3:Fc l.mn l.mx) (h5:Uq [x] 1=false):
  Calls prog 234 #[.agg cs.toArray] w fun e w'=>e=.returned (.bool true)/\Below w w w':=by
 obtain⟨k,s0,s1,s2,s3,mn,mx⟩:=l
 obtain⟨rfl,rfl,rfl,rfl⟩:=h2
 obtain rfl:k=5:=h1
 have D:=A
 obtain⟨a,c,rfl,-,-⟩:=A.open
 simp only[Cc.cells,Zas,Zau,Zes]at D|-
 have H:=Mv
 have bc:∀W,Below w w W->Calls prog 259 #[.agg #[.int .u8 5,zI,zI,zI,zI,mn,mx,.slice a 1 c],.int .u8 1] W fun e w'=>e=.returned (.bool false)/\Below W W w':=fun W G=>by
  rw[<-h5];exact Zz ⟨5,0,0,0,0,mn,mx⟩ _ 1 _ W n (Zag F G.size) hlen (D.below (G.mono F))
 have c0:Below w w (w.alloc (.cells #[.int .u8 5,zI,zI,zI,zI,mn,mx,.slice a 1 c] 43)):=Af _
 have df:=Ae w [.int .u8 5,zI,zI,zI,zI,mn,mx,.slice a 1 c] 43
 have gh:w.heap.size< (w.alloc (.cells #[.int .u8 5,zI,zI,zI,zI,mn,mx,.slice a 1 c] 43)).heap.size:=yF
 clear A D
 go_enter func234,ntmps234
 go_wp2_with fail
 refine(Akl mn mx _ h3).mono ?_
 rintro e J ⟨rfl,rfl⟩
 exact Z3W
theorem Te {s:List Rx} {k:UInt8} (h:∀x∈s,x.Cx≠k):Uq s k=false:=by
 simp only[Uq,List.any_eq_false,Zhn];exact h
theorem Anm (l:Cc) (s:List Rx) (cs:zP) (w:zN) (n:Nat) (D:n<=w) (hlen:s.length<=1000000) (A:Bo w n (.node l s) cs) (h:Iy l s):
  Calls prog 234 #[.agg cs.toArray] w fun e w'=>e=.returned (.bool true)/\Below w w w':=by
 cases h with
 | empty h1 h2 h3=>exact Zg l cs w n A h1 h2 h3
 | cls h1 h2 h3=>exact Adh l cs w n A h1 h2 h3
 | cat _ h1 h2 h3 h4 h5=>exact Adi l s cs w n D hlen A h1 h2 h3 h4 (Te fun x F=>(h5 x F).1) (Te fun x F=>(h5 x F).2)
 | alt _ h1 h2 h3 h4 h5=>exact Adj l s cs w n D hlen A h1 h2 h3 h4 (Te h5)
 | My x h1 h2 h3 h4=>exact Adg l x cs w n D yE A h1 h2 h3 (Te fun y hy=>by simp at hy;subst hy;exact h4)
 | group x h1 h2 h3=>exact Zf l x cs w n D yE A h1 h2 h3
end
section
open Tryz Go.RowKit Go.Shelf
attribute [local go_sem] Oper.semAt_some
theorem Bo.shape {w:zN} {n:Nat} {t:Rx} {cs:zP} (h:Bo w n t cs):
  ∃(a:zO) (c:Nat),cs=[.int .u8 t.Ak.kind.toNat,.int .u64 t.Ak.s0.toNat,.int .u64 t.Ak.s1.toNat,.int .u64 t.Ak.s2.toNat,.int .u64 t.Ak.s3.toNat,.int .i64 t.Ak.mn,.int .i64 t.Ak.mx,.slice a t.Cb c]:=by
 obtain⟨l,s⟩:=t
 obtain⟨a,c,rfl,_⟩:=h.open
 exact⟨a,c,rfl⟩
theorem Uc {α:Type} (l:List α) (p:α->Bool) (k:Nat) (A:k<l):((l.take (k+1)).filter p).length=((l.take k).filter p).length+if p l[k]then 1 else 0:=by
 rw[Zay A,Zdt,Zbj,Zdu,List.filter_nil];cases p l[k]<;>simp
theorem Aao (t:Rx) (cs:zP) (w:zN) (n:Nat) (bp:t.size<=10000) (ah:n<=w) (b8:Bo w n t cs):
  Calls prog 206 #[.agg cs.toArray] w fun e w'=>e=.returned (.int .i64 t.B3)/\Below w w w':=by
 obtain⟨z0,b9,z2,z3,z4,z5,cc,bg,bk,z9,rfl⟩:=Bo.eight b8
 have V:Below w w (w.alloc (.cells #[z0,b9,z2,z3,z4,z5,cc,.slice bg bk z9] 43)):=Af _
 refine Z4U ?_
 intro df oy
 have iz:=b8.below (V.mono ah)
 refine Z4f ?_
 refine Zhp func206 rfl trivial ?_ rfl
 simp only[ntmps206,Zfk,Zao,Zav,Nat.reduceAdd,Nat.reduceSub,Zcb,Zcc,Zff,Zdl,Zau,Zas]
 refine Zii.2 ?_
 go_wp2_with fail
 refine Z4z ?_
 rintro e a8 ⟨rfl,F⟩
 rw[oy]at F
 have b7:=Aa df F yE
 have a5:=iz.below (F.mono yE)
 have a7:=F.size
 rw[oy]at a7
 have c7:Below w w a8:=V.trans (F.mono yE)
 refine Z0n ?_
 intro d0 d1 d2 d3 d4
 refine Z57 ?_
 intro d5 d6 d7
 simp only[Zac]at d0 d1 d2 d3 d4 d5 d6 d7
 have aa:w.heap.size<a8:=yE
 clear df oy V iz F
 go_wp2_with fail
 refine Z3L ?_
 intro ag cr
 go_wp2_with fail
 refine Z2T ?_
 intro re al yv kx vj
 clear cr d0 d1 d2 d3 d4 d5 d6 d7 b7 a5 c7
 refine(Zii (n:=5)).1 (Gp (gf:=114) (lb:=#[zK (a8+1)]) rfl (fun _ _=>rfl)
  (Vb t _ ag n (a8+1) (a8+1) yE vj yv (.inr (Zab _)) yE yE) (fun k args X ⟨_,es,e,_⟩=>yS) Cg.trans (fun X a0 ad a6 h1 h2 h3 h4=>Cg.put h3 h4 h2 a6)
  (fun k X=>Ip w a8 ((t.pre.take k).filter fun x=>x.Cx==6).length X) (fun _ _=>False) (fun k=>Ip.B8 yE) (fun c=>At.pure _) ⟨kx,al⟩
  (fun k T X=>∃(M:Nat) (es:zP) (v10:Value) (D:k<t.pre),T={tmps:=#[.agg #[z0,b9,z2,z3,z4,z5,cc,.slice bg bk z9],.pointer (some ⟨w,0,none⟩),.int .i64 0,.pointer (some ⟨a8,0,none⟩),.pointer (some ⟨M,0,none⟩),.agg #[z0,b9,z2,z3,z4,z5,cc,.slice bg bk z9],.bool true,.bool false,.agg #[z0,b9,z2,z3,z4,z5,cc,.slice bg bk z9],.func (.func 114) #[] #[zK (a8+1)],v10,undef,undef,undef,undef,undef,undef],defers:=[]}/\X.rangeAt M 0 es/\Bo X n t.pre[k] es)
  (fun k T A C row ⟨M,es,v10,D,e,h1,h2⟩ Y W=>⟨M,es,v10,D,e,Dg A C row h1 Y W,Tree.In.B8 A C row h2 Y W⟩) ?assign ?body ?done ?stop)
 case assign=>
  rintro a0 k args X K D hI ⟨a1,es,rfl,lg⟩ J;obtain⟨a,c,rfl⟩:=Bo.shape lg;refine Z0y ?_;gi_wp2_with fail
  refine J _ _ ((Zdc _ _).from _) (Cg.below (Af _) (Zab _)) ((Ip.B8 (Zab _)).new hI _) ⟨X,_,_,a1,rfl,Ae X [.int .u8 t.pre[k].Ak.kind.toNat,.int .u64 t.pre[k].Ak.s0.toNat,.int .u64 t.pre[k].Ak.s1.toNat,.int .u64 t.pre[k].Ak.s2.toNat,.int .u64 t.pre[k].Ak.s3.toNat,.int .i64 t.pre[k].Ak.mn,.int .i64 t.pre[k].Ak.mx,.slice a t.pre[k].Cb.length c] _,?_⟩;exact Z2L
 case body=>
  rintro a0 k T X D ae hI ⟨M,es,v10,a1,rfl,a3,lg⟩;obtain⟨a,c,rfl⟩:=Bo.shape lg;have d0:=a3 0 _ rfl;simp only[Zac]at d0;have aw:=hI.box.cell;have ac:=hI.box.frozen;have a9:((t.pre.take k).filter fun x=>x.Cx==6).length<=10000:=by
   refine Zag (Zep _ _) (Zag (List.length_take_le _ _) ?_);rw[Tree.Dx]at D;omega
  have O:=Uc t.pre (fun x=>x.Cx==6) k D;generalize((t.pre.take (k+1)).filter fun x=>x.Cx==6).length=m1 at O|-;generalize((t.pre.take k).filter fun x=>x.Cx==6).length=m0 at O a9 aw hI;have a2:=Zaa O;clear O;have ab:(m0:Int)+1<=10001:=yE;have G:=K7 t.pre[k].Ak.kind 6;cases h6:(t.pre[k].Ak.kind==6)with
  | true=>
   rw[h6]at G;have H:m1=m0+1:=by rw[a2.out];simp[Tree.Cx,h6]
   have U:=Zaa H;clear H h6;have a4:((t.pre[k].Ak.kind.toNat:Int)==6)=true:=G;clear G;gi_wp2_with fail
   rw[U.out];exact hI.step (m0+1) yE ah yE
  | false=>
   rw[h6]at G;have H:m1=m0:=by rw[a2.out];simp[Tree.Cx,h6]
   have U:=Zaa H;clear H h6;have a4:((t.pre[k].Ak.kind.toNat:Int)==6)=false:=G;clear G;gi_wp2_with fail
   rw[U.out];exact⟨Zdb _ _,Cg.refl _ _ _ _,hI⟩
 case done=>
  rintro X hI hj;exact Z2k
 case stop=>
  exact Z1Z
theorem Ug {fn:Func} {p:Tmp} (h:fn.results=#[.cell p 4]) (tmps:Array Value) (w:zN) (a:Addr) (v:Value) (hp:tmps.getD p undef=.pointer (some a)) (A:w.cell? a=some v):
  (results fn tmps).run prog w=.ok v w:=by
 have hu:prog.underlying 4=some .bool:=yG
 have D:(isAgg 4).run prog w=.ok false w:=by
  exact Z25
 rw[Zbv]at hp
 simp only[results,h]
 simp[Zgv,Result.andThen,hp,asAddr,loadVar,D,A]
theorem Vy {n r p:Nat} {fn:Func} {tmps:Array Value} {v:Value} {w W:zN} {Ds:List Nat} (A:fn.results=#[.cell r 4]) (G:tmps.getD r undef=.pointer (some ⟨p,0,none⟩)) (H:W.cell? ⟨p,0,none⟩=some v) (U:Below w w W) (F:Ds.Nodup)
  (M:∀D∈Ds,w.heap.size<=D/\W.heap[D]? =some (.deferred (some []))):LeavesInM Fence.wide n prog fn tmps (fun e w'=>e=.returned v/\Below w w w') (marks Ds) .returning W:=
 Fy (Z:=fun W=>W.cell? ⟨p,0,none⟩=some v/\Below w w W) (At.and I3 (E3 (Zab _) (Zab _)))
  (fun J h=>⟨v,Ug A tmps J _ v G h.1,rfl,h.2⟩) Ds W F M ⟨H,U⟩
theorem Tree.eta {L:Type} (t:Tree L):Tree.node t.Ak t.Cb=t:=by cases t;rfl
theorem Aa3 {L:Type} (t:Tree L):∀x∈t.pre,x.size<=t.size:=by
 induction t using Tree.ind with
 | h l s D=>
  intro x A;simp only[Tree.pre,Zbc]at A;rcases A with rfl | A
  ·exact Zab _
  obtain⟨y,hy,G⟩:∃y∈s,x∈y.pre:=by
   clear D
   induction s with
   | nil=>simp[Tree.Dw]at A
   | cons a s F=>
    simp only[Tree.Dw,Zew]at A;rcases A with A | A
    ·exact⟨a,yF,A⟩
    obtain⟨y,hy,h⟩:=F A;exact⟨y,by simp[hy],h⟩
  have h1:=D y hy x G;have h2:=Tree.D2 s y hy;simp only[Tree.size];omega
theorem Ae0 {L:Type} (t:Tree L):t.Cb.length<=t.size:=by
 obtain⟨l,s⟩:=t;have:=Tree.Co s;simp only[Tree.Cb,Tree.size];omega
theorem Ae2 (t:Rx) (cs:zP) (w:zN) (n:Nat) (bp:t.size<=10000) (U:n<=w) (M:Bo w n t cs) (aw:Cd t):
  Calls prog 204 #[.agg cs.toArray] w fun e w'=>e=.returned (.bool true)/\Below w w w':=by
 obtain⟨z0,b9,z2,z3,z4,z5,cc,bg,bk,z9,rfl⟩:=Bo.eight M
 have O:Below w w ((w.alloc (.cells #[z0,b9,z2,z3,z4,z5,cc,.slice bg bk z9] 43)).alloc (.cells #[zA] 4)):=(Af _).alloc yF _
 have Y:=Aa (Ae w [z0,b9,z2,z3,z4,z5,cc,.slice bg bk z9] 43) (Af (w:=w.alloc (.cells #[z0,b9,z2,z3,z4,z5,cc,.slice bg bk z9] 43)) (.cells #[zA] 4)) yF
 have a0:Boxed ((w.alloc (.cells #[z0,b9,z2,z3,z4,z5,cc,.slice bg bk z9] 43)).alloc (.cells #[zA] 4)) (w+1) 4 (.bool false):=by
  have:=Zco (w.alloc (.cells #[z0,b9,z2,z3,z4,z5,cc,.slice bg bk z9] 43)) 4 (.bool false);exact Z1z
 have T:((w.alloc (.cells #[z0,b9,z2,z3,z4,z5,cc,.slice bg bk z9] 43)).alloc (.cells #[zA] 4)).heap.size=w.heap.size+2:=yF
 have iz:=M.below (O.mono U)
 refine Z4f ?_
 refine Zhp func204 rfl trivial ?_ rfl
 simp only[ntmps204,Zfk,Zao,Zav,Nat.reduceAdd,Nat.reduceSub,Zcb,Zcc,Zff,Zdl,Zau,Zas]
 refine Zii.2 ?_
 go_wp2_with fail
 refine Z4z ?_
 rintro e a8 ⟨rfl,D⟩
 rw[T]at D
 have b7:=Aa Y D yE
 have a5:=iz.below (D.mono yE)
 have ac:=D.size
 rw[T]at ac
 have c7:Below w w a8:=O.trans (D.mono yE)
 refine Z0n ?_
 intro d0 d1 d2 d3 d4
 refine Z57 ?_
 intro d5 d6 d7
 simp only[Zac]at d0 d1 d2 d3 d4 d5 d6 d7
 have af:w.heap.size<a8:=yE
 have a2:Boxed a8 (w+1) 4 (.bool false):=(D.block _ yE).trans a0
 clear Y T O iz D a0
 go_wp2_with fail
 refine Z3L ?_
 intro ag cr
 go_wp2_with fail
 have aj:ag.heap.size=a8+1:=xK
 have V:Below w w ag:=uP
 have ae:ag.rangeAt a8 0 [z0,b9,z2,z3,z4,z5,cc,.slice bg bk z9]:=by
  rw[<-cr];exact Ae a8 [z0,b9,z2,z3,z4,z5,cc,.slice bg bk z9] 43
 have aa:Boxed ag (w+1) 4 (.bool false):=by
  rw[<-cr];exact a2.alloc _
 have ad:=M.below (V.mono U)
 clear cr d0 d1 d2 d3 d4 d5 d6 d7 b7 a5 c7 a2
 refine(Zii (n:=5)).1 (Gp (gf:=114) (lb:=#[zK a8]) rfl (fun _ _=>rfl)
  (Vb t _ ag n a8 a8 yE ad ae (.inr (Zab _)) yE yE) (fun k args X ⟨_,es,e,_⟩=>yS) Cg.trans (fun X kk ah a9 h1 h2 h3 h4=>Cg.put h3 h4 h2 a9)
  (fun k X=>Boxed X (w+1) 4 (.bool false)/\Below w w X) (fun _ _=>False) (fun k=>At.and (fun A C row h G a6=>h.kept G (fun e=>sU)) (E3 yE (Zab _))) (fun c=>At.pure _) ⟨aa,V⟩
  (fun k H X=>∃(F:Nat) (es:zP) (v9:Value) (a7:k<t.pre),H={tmps:=#[.agg #[z0,b9,z2,z3,z4,z5,cc,.slice bg bk z9],.pointer (some ⟨w,0,none⟩),.pointer (some ⟨w+1,0,none⟩),.pointer (some ⟨F,0,none⟩),.agg #[z0,b9,z2,z3,z4,z5,cc,.slice bg bk z9],.bool true,.bool false,.agg #[z0,b9,z2,z3,z4,z5,cc,.slice bg bk z9],.func (.func 114) #[] #[zK a8],v9,undef,undef,undef],defers:=[]}/\X.rangeAt F 0 es/\Bo X n t.pre[k] es)
  (fun k H A C row ⟨F,es,v10,a7,e,h1,h2⟩ G a6=>⟨F,es,v10,a7,e,Dg A C row h1 G a6,Tree.In.B8 A C row h2 G a6⟩) ?assign ?body ?done ?stop)
 case assign=>
  rintro kk k args X K a7 hI ⟨a3,es,rfl,lg⟩ J;obtain⟨a,c,rfl⟩:=Bo.shape lg;refine Z0y ?_;gi_wp2_with fail
  refine J _ _ ((Zdc _ _).from _) (Cg.below (Af _) (Zab _)) ⟨hI.1.alloc _,hI.2.alloc hI.2.size _⟩ ⟨X,_,_,a3,rfl,Ae X [.int .u8 t.pre[k].Ak.kind.toNat,.int .u64 t.pre[k].Ak.s0.toNat,.int .u64 t.pre[k].Ak.s1.toNat,.int .u64 t.pre[k].Ak.s2.toNat,.int .u64 t.pre[k].Ak.s3.toNat,.int .i64 t.pre[k].Ak.mn,.int .i64 t.pre[k].Ak.mx,.slice a t.pre[k].Cb.length c] _,?_⟩;exact Z2L
 case body=>
  rintro kk k H X a7 ai hI ⟨F,es,v10,a3,rfl,a1,lg⟩;have a4:=aw t.pre[k] (Zat _);have ab:t.pre[k].Cb.length<=1000000:=by
   have:=Aa3 t t.pre[k] (Zat _);have:=Ae0 t.pre[k];omega
  have W:=lg;obtain⟨a,c,rfl⟩:=Bo.shape lg;have ia:=Anm t.pre[k].Ak t.pre[k].Cb _ X n (by have:=hI.2.size;omega) ab (by rw[Tree.eta];exact W) a4;clear W lg a4 aw;refine Z0x ?_;intro d0 d1 d2 d3 d4 d5 d6 d7;simp only[Zac]at d0 d1 d2 d3 d4 d5 d6 d7;exact Z2G
 case done=>
  exact Z1o
 case stop=>
  exact Z1Z
end
section
open Tryz Go.RowKit Go.Shelf
theorem N4 (t:Rx):t.Da<=10001:=by obtain⟨l,s⟩:=t;simp only[Tree.Da];omega
theorem Aa4:∀s:List Rx,Tree.Cm s<=10001*s.length
 | []=>by simp[Tree.Cm]
 | x::xs=>by have:=N4 x;have:=Aa4 xs;simp only[Tree.Cm,Zao];omega
theorem It (s:List Rx) (i:Nat):Tree.Cm (s.take i)<=10001*s.length:=by
 have h:=Hj (s.take i) (s.drop i);rw[Zfo]at h;have:=Aa4 s;omega
theorem Hu (s:List Rx) (i:Nat) (A:i<s):Tree.Cm (s.take (i+1))=Tree.Cm (s.take i)+s[i].Da:=by
 rw[Zay A,Hj];simp[Tree.Cm]
theorem Adl (k:UInt8) (s0 s1 s2 s3:UInt64) (mn mx:Int) (s:List Rx) (a:zO) (c:Nat) (w:zN) (n:Nat) (hlen:s.length<=10000) (ah:n<=w) (b8:Bo w n (.node ⟨k,s0,s1,s2,s3,mn,mx⟩ s) [k,s0,s1,s2,s3,mn,mx,.slice a s c])
  (cb:∀x∈s,∀(cs:zP) (w:zN) (n:Nat),n<=w->Bo w n x cs->Calls prog 235 #[.agg cs.toArray] w fun e w'=>e=.returned (.int .i64 x.Da)/\Below w w w') (h2:((k.toNat:Int)==2)=false) (h5:((k.toNat:Int)==5)=false) (bo:¬k=2) (kn:¬k=5):
  Calls prog 235 #[.agg #[k,s0,s1,s2,s3,mn,mx,.slice a s c]] w fun e w'=>e=.returned (.int .i64 (Tree.node ⟨k,s0,s1,s2,s3,mn,mx⟩ s).Da)/\Below w w w':=by
 refine Z2t ?_
 intro aP bfr ba5
 clear bo kn
 refine Z0r ?_
 intro a8 ba aa dc b7 dg fk cp j2 p5
 go_enter func235,ntmps235
 have F:=Zaa aP
 clear aP dc b7
 go_wp2_with fail
 clear ba
 go_loopw [3,14] (fun G A wr=>∃i:Nat,i<=s/\A=.int .i64 i/\G=.int .i64 ((0+Tree.Cm (s.take i):Nat):Int)/\Below a8 a8 wr) (fun _ A _=>s.length - (intOf A).toNat)
 case atStart=>exact⟨0,Zap _,rfl,rfl,Zai _ _⟩
 case round=>
  obtain⟨i,H,rfl,rfl,U⟩:=hrel;refine Z2R ?_;intro xm k1 lu;generalize D:(0+Tree.Cm (s.take i):Nat)=P at lu|-;have dw:=Zaa D;clear D;by_cases ao:i<s
  ·have J:(i:Int) <s.length:=by omega
   exact Z08
  obtain rfl:i=s:=by omega
  refine Z1e ?_;intro fe;replace dg:wr.cell? ⟨w,0,none⟩=_:=(U.cell (p:=⟨w,0,none⟩) xB).trans dg;replace fk:wr.cell? ⟨w,5,none⟩=_:=(U.cell (p:=⟨w,5,none⟩) xB).trans fk;replace cp:wr.cell? ⟨w,6,none⟩=_:=(U.cell (p:=⟨w,6,none⟩) xB).trans cp;have n7:Below w w wr:=aa.trans (U.mono aa.size);clear b8 cb U aa;rw[Zbk]at dw k1;have ec:(Tree.node ⟨k,s0,s1,s2,s3,mn,mx⟩ s).Da=min P 10001:=by rw[F.out,<-dw.out];simp[bfr.out,ba5.out]
  exact Z3N
theorem Ah5 (k:UInt8) (s0 s1 s2 s3:UInt64) (mn mx:Int) (s:List Rx) (a:zO) (c:Nat) (w:zN) (n:Nat) (hlen:s.length<=10000) (ah:n<=w) (b8:Bo w n (.node ⟨k,s0,s1,s2,s3,mn,mx⟩ s) [k,s0,s1,s2,s3,mn,mx,.slice a s c])
  (cb:∀x∈s,∀(cs:zP) (w:zN) (n:Nat),n<=w->Bo w n x cs->Calls prog 235 #[.agg cs.toArray] w fun e w'=>e=.returned (.int .i64 x.Da)/\Below w w w') (h2:((k.toNat:Int)==2)=true) (h5:((k.toNat:Int)==5)=false) (bo:k=2) (kn:¬k=5):
  Calls prog 235 #[.agg #[k,s0,s1,s2,s3,mn,mx,.slice a s c]] w fun e w'=>e=.returned (.int .i64 (Tree.node ⟨k,s0,s1,s2,s3,mn,mx⟩ s).Da)/\Below w w w':=by
 refine Z2t ?_
 intro aP bfr ba5
 clear bo kn
 refine Z0r ?_
 intro a8 ba aa dc b7 dg fk cp j2 p5
 go_enter func235,ntmps235
 have F:=Zaa aP
 clear aP dc b7
 go_wp2_with fail
 clear ba
 go_loopw [3,14] (fun G A wr=>∃i:Nat,i<=s/\A=.int .i64 i/\G=.int .i64 ((1+Tree.Cm (s.take i):Nat):Int)/\Below a8 a8 wr) (fun _ A _=>s.length - (intOf A).toNat)
 case atStart=>exact⟨0,Zap _,rfl,rfl,Zai _ _⟩
 case round=>
  obtain⟨i,J,rfl,rfl,U⟩:=hrel;have xm:=U.size;have hle:=It s i;have k1:=Zaa hle;clear hle;have H:((1+Tree.Cm (s.take i):Nat):Int)<=100010001:=wY;generalize D:(1+Tree.Cm (s.take i):Nat)=P at H|-;have dw:=Zaa D;clear D;by_cases ao:i<s
  ·have M:(i:Int) <s.length:=by omega
   exact Z08
  obtain rfl:i=s:=by omega
  refine Z1e ?_;intro fe;replace dg:wr.cell? ⟨w,0,none⟩=_:=(U.cell (p:=⟨w,0,none⟩) xB).trans dg;replace fk:wr.cell? ⟨w,5,none⟩=_:=(U.cell (p:=⟨w,5,none⟩) xB).trans fk;replace cp:wr.cell? ⟨w,6,none⟩=_:=(U.cell (p:=⟨w,6,none⟩) xB).trans cp;have n7:Below w w wr:=aa.trans (U.mono aa.size);clear b8 cb U aa;rw[Zbk]at dw k1;have ec:(Tree.node ⟨k,s0,s1,s2,s3,mn,mx⟩ s).Da=min P 10001:=by rw[F.out,<-dw.out];simp[bfr.out]
  exact Z3N
theorem Af1 (k:UInt8) (s0 s1 s2 s3:UInt64) (mn mx:Int) (s:List Rx) (a:zO) (c:Nat) (w:zN) (n:Nat) (hlen:s.length<=10000) (ah:n<=w) (b8:Bo w n (.node ⟨k,s0,s1,s2,s3,mn,mx⟩ s) [k,s0,s1,s2,s3,mn,mx,.slice a s c])
  (cb:∀x∈s,∀(cs:zP) (w:zN) (n:Nat),n<=w->Bo w n x cs->Calls prog 235 #[.agg cs.toArray] w fun e w'=>e=.returned (.int .i64 x.Da)/\Below w w w') (h2:((k.toNat:Int)==2)=false) (h5:((k.toNat:Int)==5)=true) (bo:¬k=2) (kn:k=5) (g0:0<=mn) (J:mn<=0) (g1:(mx== -1)=true) (g2:mx<= -1) (g3: -1<=mx):
  Calls prog 235 #[.agg #[k,s0,s1,s2,s3,mn,mx,.slice a s c]] w fun e w'=>e=.returned (.int .i64 (Tree.node ⟨k,s0,s1,s2,s3,mn,mx⟩ s).Da)/\Below w w w':=by
 refine Z2t ?_
 intro aP bfr ba5
 clear bo kn
 refine Z0r ?_
 intro a8 ba aa dc b7 dg fk cp j2 p5
 go_enter func235,ntmps235
 have F:=Zaa aP
 clear aP dc b7
 go_wp2_with fail
 clear ba
 go_loopw [3,14] (fun G A wr=>∃i:Nat,i<=s/\A=.int .i64 i/\G=.int .i64 ((0+Tree.Cm (s.take i):Nat):Int)/\Below a8 a8 wr) (fun _ A _=>s.length - (intOf A).toNat)
 case atStart=>exact⟨0,Zap _,rfl,rfl,Zai _ _⟩
 case round=>
  obtain⟨i,H,rfl,rfl,U⟩:=hrel;refine Z2R ?_;intro xm k1 lu;generalize D:(0+Tree.Cm (s.take i):Nat)=P at lu|-;have dw:=Zaa D;clear D;by_cases ao:i<s
  ·have M:(i:Int) <s.length:=by omega
   exact Z08
  obtain rfl:i=s:=by omega
  refine Z1e ?_;intro fe;replace dg:wr.cell? ⟨w,0,none⟩=_:=(U.cell (p:=⟨w,0,none⟩) xB).trans dg;replace fk:wr.cell? ⟨w,5,none⟩=_:=(U.cell (p:=⟨w,5,none⟩) xB).trans fk;replace cp:wr.cell? ⟨w,6,none⟩=_:=(U.cell (p:=⟨w,6,none⟩) xB).trans cp;have n7:Below w w wr:=aa.trans (U.mono aa.size);clear b8 cb U aa;rw[Zbk]at dw k1;have ec:(Tree.node ⟨k,s0,s1,s2,s3,mn,mx⟩ s).Da=min ((1:Int).toNat*P) 10001:=by rw[F.out,<-dw.out,ba5.out];simp only[J6,Zia,Zhz];rw[if_pos yE];simp only[show min (max mn.toNat 1) 10001=(1:Int).toNat from yE,show ¬(5:UInt8)=2 from yH,Zhz,Zac]
  have ft:=Zaa ec;have m0:(0:Int)<=P*1:=Int.mul_nonneg yE yE;have m1:(P:Int)*1<=100010001*16:=Int.mul_le_mul lu yE yE yE;have bc6:(((1:Int).toNat*P:Nat):Int)=P*1:=tV;exact Z3C
theorem Af0 (k:UInt8) (s0 s1 s2 s3:UInt64) (mn mx:Int) (s:List Rx) (a:zO) (c:Nat) (w:zN) (n:Nat) (hlen:s.length<=10000) (ah:n<=w) (b8:Bo w n (.node ⟨k,s0,s1,s2,s3,mn,mx⟩ s) [k,s0,s1,s2,s3,mn,mx,.slice a s c])
  (cb:∀x∈s,∀(cs:zP) (w:zN) (n:Nat),n<=w->Bo w n x cs->Calls prog 235 #[.agg cs.toArray] w fun e w'=>e=.returned (.int .i64 x.Da)/\Below w w w') (h2:((k.toNat:Int)==2)=false) (h5:((k.toNat:Int)==5)=true) (bo:¬k=2) (kn:k=5) (g0:1<=mn) (J:mn<=16) (g1:(mx== -1)=true) (g2:mx<= -1) (g3: -1<=mx):
  Calls prog 235 #[.agg #[k,s0,s1,s2,s3,mn,mx,.slice a s c]] w fun e w'=>e=.returned (.int .i64 (Tree.node ⟨k,s0,s1,s2,s3,mn,mx⟩ s).Da)/\Below w w w':=by
 refine Z2t ?_
 intro aP bfr ba5
 clear bo kn
 refine Z0r ?_
 intro a8 ba aa dc b7 dg fk cp j2 p5
 go_enter func235,ntmps235
 have F:=Zaa aP
 clear aP dc b7
 go_wp2_with fail
 clear ba
 go_loopw [3,14] (fun G A wr=>∃i:Nat,i<=s/\A=.int .i64 i/\G=.int .i64 ((0+Tree.Cm (s.take i):Nat):Int)/\Below a8 a8 wr) (fun _ A _=>s.length - (intOf A).toNat)
 case atStart=>exact⟨0,Zap _,rfl,rfl,Zai _ _⟩
 case round=>
  obtain⟨i,H,rfl,rfl,U⟩:=hrel;refine Z2R ?_;intro xm k1 lu;generalize D:(0+Tree.Cm (s.take i):Nat)=P at lu|-;have dw:=Zaa D;clear D;by_cases ao:i<s
  ·have M:(i:Int) <s.length:=by omega
   exact Z08
  obtain rfl:i=s:=by omega
  refine Z1e ?_;intro fe;replace dg:wr.cell? ⟨w,0,none⟩=_:=(U.cell (p:=⟨w,0,none⟩) xB).trans dg;replace fk:wr.cell? ⟨w,5,none⟩=_:=(U.cell (p:=⟨w,5,none⟩) xB).trans fk;replace cp:wr.cell? ⟨w,6,none⟩=_:=(U.cell (p:=⟨w,6,none⟩) xB).trans cp;have n7:Below w w wr:=aa.trans (U.mono aa.size);clear b8 cb U aa;rw[Zbk]at dw k1;have ec:(Tree.node ⟨k,s0,s1,s2,s3,mn,mx⟩ s).Da=min ((mn:Int).toNat*P) 10001:=by rw[F.out,<-dw.out,ba5.out];simp only[J6,Zia,Zhz];rw[if_pos yE];simp only[show min (max mn.toNat 1) 10001=mn.toNat from yE,show ¬(5:UInt8)=2 from yH,Zhz,Zac]
  have ft:=Zaa ec;have m0:(0:Int)<=P*mn:=Int.mul_nonneg yE yE;have m1:(P:Int)*mn<=100010001*16:=Int.mul_le_mul lu yE yE yE;have bc6:(((mn:Int).toNat*P:Nat):Int)=P*mn:=tV;exact Z3C
theorem Afz (k:UInt8) (s0 s1 s2 s3:UInt64) (mn mx:Int) (s:List Rx) (a:zO) (c:Nat) (w:zN) (n:Nat) (hlen:s.length<=10000) (ah:n<=w) (b8:Bo w n (.node ⟨k,s0,s1,s2,s3,mn,mx⟩ s) [k,s0,s1,s2,s3,mn,mx,.slice a s c])
  (cb:∀x∈s,∀(cs:zP) (w:zN) (n:Nat),n<=w->Bo w n x cs->Calls prog 235 #[.agg cs.toArray] w fun e w'=>e=.returned (.int .i64 x.Da)/\Below w w w') (h2:((k.toNat:Int)==2)=false) (h5:((k.toNat:Int)==5)=true) (bo:¬k=2) (kn:k=5) (g0:0<=mn) (g1:mn<=mx) (g2:1<=mx) (g3:mx<=16):
  Calls prog 235 #[.agg #[k,s0,s1,s2,s3,mn,mx,.slice a s c]] w fun e w'=>e=.returned (.int .i64 (Tree.node ⟨k,s0,s1,s2,s3,mn,mx⟩ s).Da)/\Below w w w':=by
 refine Z2t ?_
 intro aP bfr ba5
 clear bo kn
 have g4:(mx== -1)=false:=yZ
 have g5:(if mn<mx then mx else mn)=mx:=by split<;>omega
 refine Z0r ?_
 intro a8 ba aa dc b7 dg fk cp j2 p5
 go_enter func235,ntmps235
 have F:=Zaa aP
 clear aP dc b7
 go_wp2_with fail
 clear ba
 go_loopw [3,14] (fun G A wr=>∃i:Nat,i<=s/\A=.int .i64 i/\G=.int .i64 ((0+Tree.Cm (s.take i):Nat):Int)/\Below a8 a8 wr) (fun _ A _=>s.length - (intOf A).toNat)
 case atStart=>exact⟨0,Zap _,rfl,rfl,Zai _ _⟩
 case round=>
  obtain⟨i,H,rfl,rfl,U⟩:=hrel;refine Z2R ?_;intro xm k1 lu;generalize D:(0+Tree.Cm (s.take i):Nat)=P at lu|-;have dw:=Zaa D;clear D;by_cases ao:i<s
  ·have J:(i:Int) <s.length:=by omega
   exact Z08
  obtain rfl:i=s:=by omega
  refine Z1e ?_;intro fe;replace dg:wr.cell? ⟨w,0,none⟩=_:=(U.cell (p:=⟨w,0,none⟩) xB).trans dg;replace fk:wr.cell? ⟨w,5,none⟩=_:=(U.cell (p:=⟨w,5,none⟩) xB).trans fk;replace cp:wr.cell? ⟨w,6,none⟩=_:=(U.cell (p:=⟨w,6,none⟩) xB).trans cp;have n7:Below w w wr:=aa.trans (U.mono aa.size);clear b8 cb U aa;rw[Zbk]at dw k1;have ec:(Tree.node ⟨k,s0,s1,s2,s3,mn,mx⟩ s).Da=min ((mx:Int).toNat*P) 10001:=by rw[F.out,<-dw.out,ba5.out];simp only[J6,Zia,Zhz];rw[if_neg yE];simp only[show min (max mn.toNat mx.toNat) 10001=mx.toNat from yE,show ¬(5:UInt8)=2 from yH,Zhz,Zac]
  have ft:=Zaa ec;have m0:(0:Int)<=P*mx:=Int.mul_nonneg yE yE;have m1:(P:Int)*mx<=100010001*16:=Int.mul_le_mul lu yE yE yE;have bc6:(((mx:Int).toNat*P:Nat):Int)=P*mx:=tV;exact Z3C
end
section
open Tryz Go.RowKit Go.Shelf
theorem D4 {k c:UInt8} (h:¬k=c):((k.toNat:Int)==(c.toNat:Int))=false:=by rw[K7];simpa using h
theorem H4 {k c:UInt8} (h:k=c):((k.toNat:Int)==(c.toNat:Int))=true:=by rw[K7];simpa using h
theorem Aan (t:Rx):t.size<=10000->Cd t->∀(cs:zP) (w:zN) (n:Nat),n<=w->Bo w n t cs->
  Calls prog 235 #[.agg cs.toArray] w fun e w'=>e=.returned (.int .i64 t.Da)/\Below w w w':=by
 induction t using Tree.ind with
 | h lb s M=>
 intro bp V cs w n H F
 obtain⟨O,T⟩:=Cd.node.1 V
 have hlen:s.length<=10000:=wS
 have G:∀x∈s,∀(cs:zP) (w:zN) (n:Nat),n<=w->Bo w n x cs->Calls prog 235 #[.agg cs.toArray] w fun e w'=>e=.returned (.int .i64 x.Da)/\Below w w w':=
  fun x J=>M x J (by have:=Tree.D2 s x J;simp only[Tree.size]at bp;omega) (T x J)
 clear M
 obtain⟨a,c,rfl,a3,a4⟩:=F.open
 obtain⟨k,s0,s1,s2,s3,mn,mx⟩:=lb
 simp only[Cc.cells,Zas,Zau]at F|-
 by_cases D:k=2
 ·have A:¬k=5:=by rw[D];decide
  exact Ah5 k s0 s1 s2 s3 mn mx s a c w n hlen H F G (H4 D) (D4 A) D A
 by_cases A:k=5
 ·have U:Fc mn mx:=by
   cases O with
   | My x h1 h2 h3 h4=>exact h3
   | empty h1=>subst A;exact absurd h1 yF
   | cls h1=>subst A;exact absurd h1 yF
   | cat _ h1=>subst A;exact absurd h1 yF
   | alt _ h1=>subst A;exact absurd h1 yF
   | group x h1=>subst A;exact absurd h1 yF
  obtain⟨q1,W,a5,a1⟩:=U;rcases a1 with rfl | ⟨Y,a0,a2⟩
  ·by_cases q:mn<=0
   ·exact Af1 k s0 s1 s2 s3 mn _ s a c w n hlen H F G (D4 D) (H4 A) D A q1 q rfl yE yE
   exact Af0 k s0 s1 s2 s3 mn _ s a c w n hlen H F G (D4 D) (H4 A) D A yE W rfl yE yE
  exact Afz k s0 s1 s2 s3 mn mx s a c w n hlen H F G (D4 D) (H4 A) D A q1 a2 Y a0
 exact Adl k s0 s1 s2 s3 mn mx s a c w n hlen H F G (D4 D) (D4 A) D A
theorem Adk (t:Rx) (cs:zP) (w:zN) (n:Nat) (M:t.size<=10000) (U:Cd t) (H:n<=w) (J:Bo w n t cs):
  Calls prog 205 #[.agg cs.toArray] w fun e w'=>e=.returned (.int .i64 t.Da)/\Below w w w':=by
 obtain⟨a,c,rfl⟩:=Bo.shape J
 have D:Below w w (w.alloc (.cells #[t.Ak.kind,t.Ak.s0,t.Ak.s1,t.Ak.s2,t.Ak.s3,t.Ak.mn,t.Ak.mx,.slice a t.Cb c] 43)):=Af _
 have O:=Ae w [t.Ak.kind,t.Ak.s0,t.Ak.s1,t.Ak.s2,t.Ak.s3,t.Ak.mn,t.Ak.mx,.slice a t.Cb c] 43
 have F:=J.below (D.mono H)
 go_enter func205,ntmps205
 go_wp2_with fail
 refine(Iz t _ _ n M yJ F).mono ?_
 rintro e G ⟨rfl,A⟩
 have b7:=Aa O A yF
 have V:=F.below (A.mono yJ)
 have c7:Below w w G:=D.trans (A.mono yF)
 have T:n<=G:=Zag H c7.size
 refine Z0n ?_
 intro d0 d1 d2 d3 d4
 refine Z57 ?_
 intro d5 d6 d7
 simp only[Zac]at d0 d1 d2 d3 d4 d5 d6 d7
 clear O D F A b7
 go_wp2_with fail
 refine(Aan t M U _ _ n T V).mono ?_
 exact Z31
theorem S8 (t:Rx) (b M:Bool) (cs:zP) (w:zN) (n:Nat) (H:F3 t) (a4:n<=w) (a0:Bo w n t cs):
  Calls prog 160 #[.agg ([Value.bool b,Value.bool M]++cs).toArray] w fun e w'=>e=.returned (.int .i64 0)/\Below w w w':=by
 have h1:=H.size
 have h2:=H.pos
 have h3:=H.groups
 obtain⟨a,c,rfl⟩:=Bo.shape a0
 simp only[Zas,Zau]
 have J:Below w w (w.alloc (.cells #[b,M,t.Ak.kind,t.Ak.s0,t.Ak.s1,t.Ak.s2,t.Ak.s3,t.Ak.mn,t.Ak.mx,.slice a t.Cb c] 45)):=Af _
 have a1:=Ae w [b,M,t.Ak.kind,t.Ak.s0,t.Ak.s1,t.Ak.s2,t.Ak.s3,t.Ak.mn,t.Ak.mx,.slice a t.Cb c] 45
 have T:=a0.below (J.mono a4)
 have q1:(t.size:Int)<=120:=yE
 have aD:(t.Da:Int)<=400:=yE
 have aF:(t.B3:Int)<=9:=yE
 go_enter func160,ntmps160
 go_wp2_with fail
 refine(Ae2 t _ _ n yE yJ T H.clean).mono ?_
 rintro e V ⟨rfl,aa⟩
 have A:=Aa a1 aa yF
 have O:=T.below (aa.mono yJ)
 have a3:Below w w V:=J.trans (aa.mono yF)
 have aC:w.heap.size<V:=xT
 have a6:=A 2 _ rfl
 have a7:=A 3 _ rfl
 have a8:=A 4 _ rfl
 have a9:=A 5 _ rfl
 have ab:=A 6 _ rfl
 have ac:=A 7 _ rfl
 have ad:=A 8 _ rfl
 have ae:=A 9 _ rfl
 simp only[Zac]at a6 a7 a8 a9 ab ac ad ae
 clear a1 J T aa
 go_wp2_with fail
 refine(Aam t _ _ n yE yE O).mono ?_
 rintro e W ⟨rfl,G⟩
 have D:=Aa A G yE
 have U:=O.below (G.mono yE)
 have a2:Below w w W:=a3.trans (G.mono yE)
 have aG:w.heap.size<W:=by have:=G.size;omega
 have af:=D 2 _ rfl
 have ag:=D 3 _ rfl
 have ah:=D 4 _ rfl
 have ai:=D 5 _ rfl
 have aj:=D 6 _ rfl
 have ak:=D 7 _ rfl
 have am:=D 8 _ rfl
 have an:=D 9 _ rfl
 simp only[Zac]at af ag ah ai aj ak am an
 clear A a3 O G
 go_wp2_with fail
 refine(Adk t _ _ n yE H.clean yE U).mono ?_
 rintro e Y ⟨rfl,al⟩
 have F:=Aa D al yE
 have aB:=U.below (al.mono yE)
 have aA:Below w w Y:=a2.trans (al.mono yE)
 have aE:w.heap.size<Y:=wW
 have ao:=F 2 _ rfl
 have ap:=F 3 _ rfl
 have aq:=F 4 _ rfl
 have ar:=F 5 _ rfl
 have au:=F 6 _ rfl
 have av:=F 7 _ rfl
 have aw:=F 8 _ rfl
 have ax:=F 9 _ rfl
 simp only[Zac]at ao ap aq ar au av aw ax
 clear D a2 U al
 go_wp2_with fail
 refine(Aao t _ _ n yE yE aB).mono ?_
 rintro e a5 ⟨rfl,az⟩
 have ay:Below w w a5:=aA.trans (az.mono yE)
 go_wp2_with fail
 go_ret
 exact⟨rfl,ay⟩
end
section
open Tryz Go.RowKit Go.Shelf
structure Ct where
 kind:UInt8
 byte:UInt8
def Ct.cells (e:Ct):List Value:=[.int .u8 e.kind.toNat,.int .u8 e.byte.toNat]
def Hw (_w:zN) (_S:zT) (e:Ct) (cs:zP):Prop:=cs=e.cells
theorem Hw.Ab:Cp Hw:=fun _ _ _ _ _ _ _ _ h=>h
def Ct.fits (e:Ct) (over:Bool):Bool:=if e.kind=1 then !over else if e.kind=2 then e.byte==0 else if e.kind=3 then e.byte==0&& !over else false
theorem Adf (k b:UInt8) (over:Bool) (w:zN):
  Calls prog 40 #[.agg #[k,b],over] w fun e w'=>e=.returned (.bool (Ct.fits ⟨k,b⟩ over))/\Below w w w':=by
 have U:=K7 b 0
 by_cases h1:k=1
 ·subst h1
  cases over<;>
  ·go_enter func40,ntmps40
   exact Z0N
 have A:((k.toNat:Int)==1)=false:=D4 h1
 by_cases h2:k=2
 ·subst h2
  have en:Ct.fits ⟨2,b⟩ over=(b==0):=rfl;exact Z1B
 have F:((k.toNat:Int)==2)=false:=D4 h2
 by_cases h3:k=3
 ·subst h3
  have en:Ct.fits ⟨3,b⟩ over=((b==0)&& !over):=rfl;exact Z1B
 have D:((k.toNat:Int)==3)=false:=D4 h3
 have en:Ct.fits ⟨k,b⟩ over=false:=by simp[Ct.fits,h1,h2,h3]
 rw[en]
 clear h1 h2 h3 en
 go_enter func40,ntmps40
 exact Z0N
def J8 (l:List Ct) (j:Nat):Bool:=(l.take j).any fun e=>e.kind==3
def Q6 (l:List Ct) (j:Nat):Bool:=(l[j]?.map fun e=>e.fits (J8 l j)).getD true
theorem Afb {l:List Ct} {j:Nat} (h:j<l):Q6 l j=l[j].fits (J8 l j):=by simp[Q6,h]
theorem Ty {l:List Ct} {j:Nat} (h:j<l):J8 l (j+1)=(J8 l j||l[j].kind==3):=by
 unfold J8;rw[Zay h,List.any_append];simp
theorem Tn (l:List Ct) (a:zO) (cap:Nat) (w:zN) (n:Nat) (ak:n<=w) (hlen:l.length<=4096) (ae:Bs w n 2 a (l.map Ct.cells)) (K:Nat) (J:K<=l) (a9:∀j,j<K->Q6 l j=true) (ab:K<l->Q6 l K=false) (a4 a5:Int) (V:if K<l then a4=K/\a5=320 else a4= -1/\a5=0):
  Calls prog 10 #[.slice a l cap] w fun e w'=>e=.returned (.tuple #[a4,a5])/\Below w w w':=by
 have al:¬((4096:Int) <l.length):=yE
 have ah:=Zaa a9
 have af:=Zaa ab
 clear a9 ab
 go_enter func10,ntmps10
 go_wp2_with fail
 go_loopw [4,12] (fun u v wr=>∃i:Nat,i<=K/\u=.bool (J8 l i)/\v=.int .i64 i/\Below w w wr) (fun _ v _=>l.length - (intOf v).toNat)
 case atStart=>exact⟨0,Zap _,by simp[J8],rfl,Zai _ _⟩
 case round=>
  obtain⟨i,aj,rfl,rfl,U⟩:=hrel;by_cases ao:i<l
  ·have ap:(i:Int) <l.length:=by omega
   rcases ae with e | ⟨b,o,rfl,an,ac⟩
   ·rw[Zbr]at e;rw[e]at ao;simp at ao
   obtain⟨h1,-⟩:=ac i xX;rw[Zbh]at h1;have D:=Afb ao;have a0:=Ty ao;have M:=K7 l[i].kind 3;generalize ad:l[i]=x at h1 D a0 M;obtain⟨A,O⟩:=x;simp only[Ct.cells]at h1;refine Z3d ?_;intro d0 d1;simp only[Zaf]at d0 d1;have a3:=Zaa D;have a6:=Zaa a0;clear ac h1 ad D a0;have W:Below w w (wr.alloc (.cells #[A,O] 55)):=U.alloc U.size _;have ai:=Ae wr [A,O] 55;generalize J8 l i=H at a3 a6|-;have G:=Adf A O H;cases F:Q6 l i with
   | true=>
    have D:Ct.fits ⟨A,O⟩ H=true:=by rw[<-a3.out,F]
    rw[D]at G;have a1:=Zaa G;clear G D;go_wp2_with fail
    refine(a1.out _).mono ?_;rintro e Y ⟨rfl,T⟩;have a2:Below w w Y:=W.trans (T.mono W.size);have ag:=Aa ai T yF 0 _ rfl;simp only[Zac]at ag;replace M:((A.toNat:Int)==3)=(A==3):=M;have a7:i<K:=by
     rcases Zga i K with h | h
     ·exact h
     have:i=K:=by omega
     subst this;rw[af.out ao]at F;cases F
    have a8:J8 l (i+1)=(H||A==3):=a6.out;have aa:=Zaa a8;clear a8 a6;cases h3:(A==3)<;>rw[h3]at M aa<;>cases H<;>
    ·have am:((A.toNat:Int)==3)=_:=M
     go_wp2_with fail
     go_roundw
     case rel=>exact⟨i+1,yE,by rw[aa.out];rfl,yK,a2⟩
     case measure=>simp[intOf];omega
   | false=>
    have D:Ct.fits ⟨A,O⟩ H=false:=by rw[<-a3.out,F]
    rw[D]at G;have a1:=Zaa G;clear G D;have a7:i=K:=by
     rcases Zga i K with h | h
     ·rw[ah.out i h]at F;cases F
     omega
    subst a7;rw[if_pos ao]at V;obtain⟨rfl,rfl⟩:=V;go_wp2_with fail
    refine(a1.out _).mono ?_;rintro e Y ⟨rfl,T⟩;have a2:Below w w Y:=W.trans (T.mono W.size);go_wp2_with fail
    go_ret2;exact⟨rfl,a2⟩
  obtain rfl:i=l:=by omega
  refine Z1q ?_;intro fe;rw[if_neg yE]at V;obtain⟨rfl,rfl⟩:=V;go_wp2_with fail
  go_ret2;exact⟨rfl,U⟩
end
section
open Tryz Go.RowKit Go.Shelf
attribute [local go_sem] Oper.semAt_some
@[go_sem] theorem Am2 (P:Program) (w:zN) (a:Addr) (m:Mode) (k:FloatKind) (b:Nat):(store a (.float k b) m).run P w=stored P w a (.float k b) m:=run_store P w a _ m rfl
theorem Lr (cs:zP) (w:zN):
  Calls prog 115 #[.agg cs.toArray] w fun e w'=>e=.returned (.func (.func 143) #[] #[zK w])/\w.alloc (.cells cs.toArray 118)=w':=by
 go_enter func115,ntmps115
 go_wp2
 exact Z0K
theorem Ch.G2 {w:zN} {n:Nat} {t:Ex} {cs:zP} (h:Ch w n t cs):
  ∃(k:UInt8) (num:Nat) (name:zS) (cap:Int) (a:zO) (m c:Nat),cs=[.int .u8 k.toNat,.float .f64 num,.string name,.int .i64 cap,.slice a m c]:=by
 obtain⟨l,s⟩:=t
 obtain⟨a,c,rfl,_⟩:=h.open
 exact⟨_,_,_,_,_,_,_,rfl⟩
structure L2 (ca aC n Ix:Nat) (cR:Value) (cs:zP) (t:Ex) (Ds:List Nat) (X:zN):Prop where
 box:X.rangeAt ca 0 cs
 Pz:X.cell? ⟨aC,0,none⟩=some cR
 tree:Ch X n t cs
 nd:Ds.Nodup
 Kb:∀D∈Ds,Ix<=D/\X.heap[D]? =some (.deferred (some []))
theorem L2.B8 {T M n J B:Nat} {O:Value} {cs:zP} {t:Ex} {Ds:List Nat} (U:∀D∈Ds,D<B):At B (L2 T M n J O cs t Ds):=fun A C row h G F=>
 ⟨Dg A C row h.box G F,I3 A C row h.Pz G F,Tree.In.B8 A C row h.tree G F,h.nd,fun D H=>⟨(h.Kb D H).1,(G.block D (Zbx.1 (h.Kb D H).2).1 (fun e=>by have:=(F D e.symm).1;have:=U D H;omega)).trans (h.Kb D H).2⟩⟩
theorem L2.Mp {A G n F B M:Nat} {J:Value} {cs:zP} {t:Ex} {Ds:List Nat} {X Y:zN} (h:L2 A G n F J cs t Ds X) (g:Cg n B M X Y) (O:A<n\/B<=A) (T:B<=G) (U:M<=F):
  L2 A G n F J cs t Ds Y:=
 ⟨Ni h.box g O,Rc h.Pz g (.inr T),h.tree.Mp g,h.nd,fun D H=>⟨(h.Kb D H).1,g.same D _ (by simp[Obj.isCells];have:=(h.Kb D H).1;omega) (h.Kb D H).2⟩⟩
theorem Al8 (t:Ex):∀(cs:zP) (m l F n B ai:Nat) (G:Nat->World->Prop) (M:World->Prop) (W:zN),t.size<=1000000->Ch W n t cs->W.rangeAt F 0 cs->(F<n\/B<=F)->n<=B->B<=W->ai<=W->
  (∀k,At W (G k))->At W M->
  (∀k X dk (h:k<t.pre.length),Ch X n t.pre[k] dk->G k X->YieldAt Fence.wide (m - 1) prog l #[.agg dk.toArray] X fun e a3=>(e=.returned (.bool true)/\G (k+1) a3/\Cg n B ai X a3)\/(e=.returned (.bool false)/\M a3/\Cg n B ai X a3))->
  G 0 W->CallsIn Fence.wide m prog 143 #[.func (.yield l) #[] #[],zK F] W fun e H=>(∃v,e=.returned v)/\(G t.size H\/M H):=by
 induction t using Tree.ind with
 | h lb s aO=>
 intro cs m l F n B ai G M W bp b8 my bt aE b5 b6 a1 aC gy h0
 obtain⟨a,c,fc,b1,b2⟩:=b8.open
 obtain⟨v0,v1,v2,v3,aB⟩:∃v0 v1 v2 v3,lb.cells=[v0,v1,v2,v3]:=⟨_,_,_,_,rfl⟩
 rw[aB]at fc
 simp only[Zas,Zau]at fc
 have hlen:s.length<=1000000:=wS
 obtain⟨al,yr⟩:=zL (W.alloc (.cells #[.func (.yield l) #[] #[]] 180))
 have aQ:al.heap.size=W+1:=by rw[<-yr];simp
 have aa:Below W W al:=by rw[<-yr];exact(Zai _ _).alloc (Zab _) _
 have af:L2 F W n W (.func (.yield l) #[] #[]) cs (.node lb s) [] al:=by
  exact Z1p
 have T:=af.box
 rw[fc]at T
 have av:=T 0 _ rfl
 have aw:=T 1 _ rfl
 have an:=T 2 _ rfl
 have ay:=T 3 _ rfl
 have az:=T 4 _ rfl
 have bg5:=af.Pz
 simp only[Zac]at av aw an ay az
 obtain⟨fn,tmps,assign,body,hy,bl⟩:=gy 0 al cs (by simp[Tree.pre]) af.tree (by rw[<-yr];exact(a1 0).new h0 _)
 rw[fc]at hy
 refine Zhp func143 rfl trivial ?_ rfl
 simp only[ntmps143,Zfk,Zao,Zav,Nat.reduceAdd,Nat.reduceSub,Zcb,Zcc,Zff,Zdl,Zau,Zas]
 clear T
 gi_wp2_with fail
 refine⟨fun h=>yT,bl.mono ?_⟩
 have aW:At W (fun H=>G (Tree.node lb s).size H\/M H):=(a1 _).or aC
 have wb:∀(ax:Array Value) (Ds:List Nat) (X:zN),Ds.Nodup->(∀D∈Ds,W.heap.size<=D/\X.heap[D]? =some (.deferred (some [])))->(G (Tree.node lb s).size X\/M X)->
   LeavesInM Fence.wide m prog f143 ax (fun e H=>(∃v,e=Ending.returned v)/\(G (Tree.node lb s).size H\/M H)) (marks Ds) .returning X:=fun ax Ds X h1 h2 h3=>
  Fy aW (fun H hw=>⟨_,Zid rfl _ _ _,⟨_,rfl⟩,hw⟩) Ds X h1 h2 h3
 clear hy bl av aw an ay az bg5
 rintro e b3 (⟨rfl,jX,ap⟩ | ⟨rfl,aK,ap⟩)
 rotate_left
 ·gi_wp2_with fail
  exact wb _ [] _ yF yF (.inr aK)
 have bL:=af.Mp ap bt yE yE
 have aD:=ap.size
 rw[aQ]at aD
 have ae:=bL.box
 rw[fc]at ae
 replace ae:=ae 4 _ rfl
 simp only[Zac]at ae
 gi_wp2_with fail
 refine wpIn_loop (fun ak wr=>∃(i:Nat) (Ds:List Nat) (u3 u4 u5 u6 u7 u8 u9 u10 u14 u15 u16 u17 u18 u19 u20 u21 u22 u23 u24:Value),ak={tmps:=#[.func (.yield l) #[] #[],.pointer (some ⟨F,0,none⟩),.pointer (some ⟨W,0,none⟩),u3,u4,u5,u6,u7,u8,u9,u10,.slice a s c,.int .i64 s,.int .i64 i,u14,u15,u16,u17,u18,u19,u20,u21,u22,u23,u24],defers:=marks Ds}/\i<=s/\G (1+Tree.Bf (s.take i)) wr/\L2 F W n W (.func (.yield l) #[] #[]) cs (.node lb s) Ds wr/\W.heap.size<wr) (fun ak _=>s.length - (intOf (ak.tmps.getD 13 undef)).toNat) ?start ?round
 case start=>
  exact Z1Y
 case round=>
  rintro ak wr ⟨i,Ds,u3,u4,u5,u6,u7,u8,u9,u10,u14,u15,u16,u17,u18,u19,u20,u21,u22,u23,u24,rfl,b0,bk5,fz,bd⟩;by_cases ao:i<s
  ·have ba:(i:Int) <s.length:=by omega
   obtain⟨a2,an,aq,-,aV⟩:=fz.tree.open;rw[aB,fc]at aq;simp only[Zas,Zau,Zdm,Zhd,Zih,Zhm]at aq;obtain⟨rfl,rfl⟩:=aq;obtain rfl | ⟨b,o,rfl,U,aR⟩:=aV
   ·simp at ao
   obtain⟨dk,a6,aA⟩:=aR i ao;obtain⟨z0,V,z2,z3,Y,a0,z9,rfl⟩:=Ch.G2 aA;have d0:=a6 0 _ rfl;have d1:=a6 1 _ rfl;have d2:=a6 2 _ rfl;have d3:=a6 3 _ rfl;have d4:=a6 4 _ rfl;simp only[Zaf]at d0;have b9:b<wr:=Bm a6 yF;gi_wp2_with fail
   refine⟨trivial,fun h=>yT,(Zhq.2 (Lr [z0,.float .f64 V,z2,z3,.slice Y a0 z9] _)).mono ?_⟩;rintro e ag ⟨rfl,cr⟩;gi_wp2_with fail
   have O:Below wr wr ag:=rE;have bf:ag.heap.size=wr+2:=xK;have hj:∀D∈Ds,D<wr.heap.size:=fun D hj=>(Zbx.1 (fz.Kb D hj).2).1
   have ah:∀am,wr.heap.size<=am->At am (L2 F W n W (.func (.yield l) #[] #[]) cs (.node lb s) Ds):=fun am bb=>L2.B8 (fun D h=>by have:=hj D h;omega)
   have aX:=(ah _ (Zab _)).below fz O (Zab _);have aP:=(a1 (1+Tree.Bf (s.take i))).below bk5 O (Zab _);have aM:Ch ag n s[i] [z0,.float .f64 V,z2,z3,.slice Y a0 z9]:=Tree.In.B8 (B:=0) wr ag none aA ⟨O.os,O.tape,O.output,O.size,fun k a7 _=>O.block k a7⟩ (fun r e=>yW);have aL:ag.rangeAt (wr+1) 0 [z0,.float .f64 V,z2,z3,.slice Y a0 z9]:=by
    rw[<-cr];have:=Ae (wr.alloc (.cells #[z0,.float .f64 V,z2,z3,.slice Y a0 z9] 118)) [z0,.float .f64 V,z2,z3,.slice Y a0 z9] 118;exact Z1z
   clear cr d0 d1 d2 d3 d4;refine Gp (gf:=143) (lb:=#[zK (wr+1)]) rfl (fun _ _=>rfl) (N:=s[i].pre.length) (ok:=fun k args X=>∃(h:k<s[i].pre.length) (es:zP),args=#[.agg es.toArray]/\Ch X n s[i].pre[k] es) (Kp:=Cg n B (ag+2))
    ?it (fun k args X ⟨_,es,e,_⟩=>yS) Cg.trans (fun X kk bc aT h1 h2 h3 h4=>Cg.put h3 h4 h2 aT)
    (fun k X=>G (1+Tree.Bf (s.take i)+k) X/\L2 F W n W (.func (.yield l) #[] #[]) cs (.node lb s) Ds X)
    (fun c X=>c=.ret/\M X/\L2 F W n W (.func (.yield l) #[] #[]) cs (.node lb s) Ds X)
    (fun k=>((a1 _).mono yE).and (ah _ yE)) (fun c=>(At.pure _).and ((aC.mono yE).and (ah _ yE))) ⟨aP,aX⟩
    (fun k ak X=>∃(hz:Nat) (es:zP) (hc wt E5 aZ hD hE lX lY lZ hG hH ba0 ba1 aY ba2:Value) (a7:k<s[i].pre.length),ak={tmps:=#[.func (.yield l) #[] #[],.pointer (some ⟨F,0,none⟩),.pointer (some ⟨W,0,none⟩),u3,.pointer (some ⟨wr,0,none⟩),.pointer (some ⟨hz,0,none⟩),hc,wt,E5,aZ,hD,.slice (some ⟨b,o,none⟩) s c,.int .i64 s,.int .i64 i,hE,lX,lY,lZ,hG,.agg es.toArray,hH,ba0,ba1,aY,ba2],defers:=[]}/\X.rangeAt hz 0 es/\Ch X n s[i].pre[k] es/\hz<X.heap.size) ?hAx ?assign ?body ?done ?stop
   case it=>
    intro aN kk aG aH H au b4 aI aJ aS aF;have:=aO s[i] (Zat _) [z0,.float .f64 V,z2,z3,.slice Y a0 z9] aN kk (wr+1) n B (ag+2) aG aH H vS (aM.below (au.mono yE)) (Aa aL au yE) (.inr yE) aE yE yE aI aJ
     (fun k X es h1 h2 h3=>aS k X _ h1 ⟨h1,es,rfl,h2⟩ h3) aF
    rw[Tree.Dx];exact this
   case hAx=>
    exact Z1d
   case assign=>
    rintro kk k args X K a7 ⟨bdn,fW⟩ ⟨nz,es,rfl,lg⟩ J;obtain⟨a4,a5,a8,a9,ab,ac,ad,rfl⟩:=Ch.G2 lg;refine Z0y ?_;gi_wp2_with fail
    have aU:Below X X (X.alloc (.cells #[a4,.float .f64 a5,a8,a9,.slice ab ac ad] 118)):=(Zai _ _).alloc (Zab _) _;refine J _ _ ((Zdc _ _).from _) (Cg.below aU (Zab _)) ⟨(a1 _).new bdn _,(ah _ (Zab _)).new fW _⟩ ⟨X,[a4,.float .f64 a5,a8,a9,.slice ab ac ad],_,_,_,_,_,_,_,_,_,_,_,_,_,_,_,nz,rfl,Ae X [a4,.float .f64 a5,a8,a9,.slice ab ac ad] _,?_,yF⟩;exact Z2L
   case body=>
    rintro kk k ak X a7 be ⟨bdn,fW⟩ ⟨hz,es,hc,wt,E5,aZ,hD,hE,lX,lY,lZ,hG,hH,ba0,ba1,aY,ba2,nz,rfl,mh,lg,b7⟩;obtain⟨a4,a5,a8,a9,ab,ac,ad,rfl⟩:=Ch.G2 lg;have d0:=mh 0 _ rfl;have d1:=mh 1 _ rfl;have d2:=mh 2 _ rfl;have d3:=mh 3 _ rfl;have d4:=mh 4 _ rfl;simp only[Zac]at d0 d1 d2 d3 d4;exact Z0u
   case done=>
    exact Z0V
   case stop=>
    exact Z1m
  exact Z38
end
end Go.Proofs.YtafmoofknjncpaaGreatDoor
