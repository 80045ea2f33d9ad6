/- A part of the proof that ModelWrong holds: its theorems stand as they are typed. -/
import Derived.Test.YtafmoofknjncpaaGreatDoorQd
import Derived.Test.YtafmoofknjncpaaGreatDoorQi
set_option linter.all false
set_option maxRecDepth 100000
set_option maxHeartbeats 8000000
namespace Go.Proofs.YtafmoofknjncpaaGreatDoor
section
open Tryz Go.RowKit Go.Shelf
attribute [local irreducible] Dn C8
theorem Aba {P:Program} {ops:Array Oper} {L:Act->World->Prop} {c:Nat->World->Prop} {α:Type} {I:World->(Nat->Prop)->α->List Value->Prop} (hI:Cp I) {a:Act} {w:zN} {A D F G H:Oper} {T:List Nat}
  (g1:A.guard=none) (g2:D.guard=none) (g5:F.guard=none) (g3:G.guard=none) (g4:H.guard=none) (s O:Operand) (t:TypeId) (ae:D.op=.call {callee:=.builtin .append,args:=#[s,O],argTypes:=#[t,t]})
  (lo:Nat) (e:TypeId) (K bytes:Nat) (a9:P.underlying t=some (.slice e)) (a0:(P.info? e).map (fun i=>(i.size,i.bytes,i.zero.map fun z=>z.cells.size))=some (K,bytes,some K)) (J:0<K)
  (l:List α) (v:Value) (a1:Au (A2 I lo) lo e K w l v) (y:α) (cs:zP) (hy:A2 I lo w (fun b=>b<w.heap.size/\some b≠v.ownBlock) y cs) (a2:cs=K) (h1:∀u∈cs,u.oneCell'=true)
  (h63:l.length+1<=maxLen) (Y:(l.length+1)*bytes<=140737488355328) (ac:lo<=w)
  (ca j:Nat) (k9:TypeId) (cells:zP) (bt:ca<lo) (c5:w.heap[ca]? =some (.cells cells.toArray k9 (0,0))) (av:cells[j]? =some v)
  (a6:∀W:World,(execOp a.eval A).run P W=.ok (.value (.slice (some ⟨W,0,none⟩) 1 1)) (W.alloc (.cells cs.toArray e)))
  (a3:∀u,(a.put A.dst u).eval s=v/\(a.put A.dst u).eval O=u)
  (v5:Value) (ad:∀u M W,(execOp ((a.put A.dst u).put D.dst M).eval F).run P W=.ok (.value v5) W)
  (gj:∀u M W,(execOp (((a.put A.dst u).put D.dst M).put F.dst v5).eval G).run P W=.ok (.value (.pointer (some ⟨ca,j,none⟩))) W)
  (yo:∀u ak V ax (W:zN),W.cell? ⟨ca,j,none⟩=some v->W.frozen? ⟨ca,j,none⟩=false->(execOp ((((a.put A.dst u).put D.dst (.slice ak V ax)).put F.dst v5).put G.dst (.pointer (some ⟨ca,j,none⟩))).eval H).run P W=.ok .skip (W.setCell ⟨ca,j,none⟩ (.slice ak V ax)))
  (a7:∀k∈T,c k w->c k (w.alloc (.cells cs.toArray e)))
  (h:∀ak ax w',Au (A2 I lo) lo e K w' (l++[y]) (.slice ak (l+1) ax)->l.length+1<=ax->w'.heap[ca]? =some (.cells (cells.set j (.slice ak (l+1) ax)).toArray k9 (0,0))->(∀b,b<w.heap.size->b≠ca->some b≠v.ownBlock->w'.heap[b]? =w.heap[b]?)->Below ca w w'->w.heap.size<w'.heap.size->((Value.slice ak (l+1) ax).ownBlock=v.ownBlock\/∃g,(Value.slice ak (l+1) ax).ownBlock=some g/\w.heap.size<=g)->
   L (((((a.put A.dst (.slice (some ⟨w,0,none⟩) 1 1)).put D.dst (.slice ak (l+1) ax)).put F.dst v5).put G.dst (.pointer (some ⟨ca,j,none⟩))).put H.dst undef) w'):
  C8 P ops c L [(A,.inr ([],T)),(D,.inr ([],[])),(F,.inl none),(G,.inl none),(H,.inr ([],[]))] a w:=by
 refine M5 g1 (a6 w) yF a7 ?_
 obtain⟨a4,a5⟩:=a3 (.slice (some ⟨w,0,none⟩) 1 1)
 refine A1 (ks:=([],[])) g2 (fun ag ab=>?_)
 refine Am (A2.Ab hI lo) g2 s O t ae lo e K bytes a9 a0 J l v a4 a1 y cs a5 rfl hy a2 h1 h63 Y ac ?_
 intro ak ax a8 jx p9 aa dr af jy
 refine Z4a ?_
 refine ab _ _ yF yF ?_
 refine Gx g5 (fun W _=>ad _ _ W) ?_
 exact Z0J
theorem Aik (w:zN):Calls prog 239 #[] w fun e w'=>e=.returned (.agg #[zG,zG])/\Below w w w':=by
 obtain⟨T,A,D,F,H⟩:=Bx w [zE,zE] 244;have G:=Zaa A;have O:=Zaa D;have J:=Zaa D.there;clear A D H;go_enter func239,ntmps239
 go_upto_region 1 with fail
 have A:=G.out;rw[A];clear A G;go_wp2_with (refine Zil rfl 244 _ _ rfl w.heap.size 0 #[zG,zG] rfl rfl J.out yG yL ?_)
 have M:=O.out.fill (vs:=[zG,zG]) rfl;exact Zho (v:=.agg #[zG,zG]) (Aq rfl _ _ w 0 [zG,zG] rfl M.range yG yG) rfl ⟨rfl,Cn F _ _ _ F.size (Zab _)⟩
def Z5 (_w:zN) (_S:zT) (p:Int×Int) (cs:zP):Prop:=cs=[.int .i64 p.1,.int .i64 p.2]
theorem Z5.Ab:Cp Z5:=fun _ _ _ _ _ _ _ _ h=>h
theorem Aac:prog.underlying 240=some (.slice 244):=yG
theorem Ag1:(prog.info? 244).map (fun i=>(i.size,i.bytes,i.zero.map fun z=>z.cells.size))=some (2,16,some 2):=yG
theorem Aad:prog.underlying 314=some (.slice 270):=yG
theorem Ag2:(prog.info? 270).map (fun i=>(i.size,i.bytes,i.zero.map fun z=>z.cells.size))=some (1,8,some 1):=yG
theorem Zk_ {w:zN} {lo:Nat} {A:List (Int×Int)} {v:Value} (O:A≠[]) (h:Au (A2 Z5 lo) lo 244 2 w A v):E7 w v A:=by
 obtain⟨a,c,rfl,J⟩:=h.shape;refine⟨a,c,rfl,J,.inr ?_⟩;rcases h.at with h0 | ⟨g,T,G,U,H,D⟩
 ·exact absurd h0 O
 cases G;refine⟨g,rfl,H,fun k F=>?_⟩;obtain⟨cs,h1,h2,h3,h4⟩:=D k F;have M:cs=[.int .i64 A[k].1,.int .i64 A[k].2]:=h3;subst M;exact⟨h2,h4⟩
def Px (w:zN) (S:zT) (x:Rx×Nat×Nat) (cs:zP):Prop:=∃v,cs=[v]/\Cs w S x.1 x.2.1 x.2.2 v
theorem Px.Ab:Cp Px:=by
 rintro w w' S S' x cs A hm ⟨v,rfl,h⟩;exact⟨v,rfl,Cs.Ab _ w w' S S' _ _ _ A hm h⟩
def Gm:List Rx->Nat->Nat->List (Rx×Nat×Nat)
 | [],_,_=>[]
 | x::xs,i,g=>(x,i,g)::Gm xs (i+x.size) (g+x.B3)
theorem Ac4 (xs:List Rx) (x:Rx):∀i g,Gm (xs++[x]) i g=Gm xs i g++[(x,i+Tree.Bf xs,g+Be xs)]:=by
 induction xs with
 | nil=>intro i g;simp[Gm,Tree.Bf,Be,Tree.Dw]
 | cons y xs A=>intro i g;simp only[Zas,Gm,A,Tree.Bf,C6,Zfx]
theorem K8 (xs:List Rx):∀i g,(Gm xs i g).length=xs.length:=by
 induction xs with
 | nil=>intro i g;rfl
 | cons y xs A=>intro i g;simp[Gm,A]
theorem Afn (xs:List Rx):∀(i g k:Nat) (h:k<xs),(Gm xs i g)[k]? =some (xs[k],i+Tree.Bf (xs.take k),g+Be (xs.take k)):=by
 induction xs with
 | nil=>intro i g k h;simp at h
 | cons y xs A=>
  intro i g k h;cases k with
  | zero=>simp[Gm,Tree.Bf,Be,Tree.Dw]
  | succ k=>
   simp only[Gm,Zae,Zfq,Tree.Bf,C6,Zej];rw[A _ _ k yV];simp[Zfx]
def Ahr (fb G:Nat) (J H:Value) (t:Rx):Prop:=
 ∀(id:Nat) (F:List (Int×Int)) (A:Value) (cs:zP) (w:zN),id+t.size<=100000->G<=fb->Bo w G t cs->Ar w fb 278 [J,id,A,H]->E7 w A F->(F=[]->A=.slice none 0 0)->A.ownBlock≠some fb->F.length+t.B3<=1->
  Calls prog 212 #[zK fb,.agg cs.toArray] w fun e w'=>∃M D,e=.returned (.pointer (some ⟨M,0,none⟩))/\Ar w' fb 278 [J,.int .i64 ((id+t.size:Nat):Int),D,H]/\E7 w' D (F++List.replicate t.B3 (-1,-1))/\(D=A\/∃g,D.ownBlock=some g/\w.heap.size<=g)/\(t.B3=0->D=A)/\
   Cs w' (fun b=>(w<=b/\b<w')/\D.ownBlock≠some b) t id F.length (.pointer (some ⟨M,0,none⟩))/\w.grownBy w' (some fb)
theorem Agp (fb az:Nat) (ag af:Value) (t:Rx):t.size<=1000->Ahr fb az ag af t:=by
 refine Tree.ind (P:=fun t=>t.size<=1000->Ahr fb az ag af t) (fun l t bG bp=>?_) t;have hlen:t.length<=1000:=by
  exact Z1R
 have ce:∀x∈t,Ahr fb az ag af x:=fun x aF=>bG x aF (by
  have:=Tree.D2 t x aF;simp only[Tree.size]at bp;omega)
 clear bG;intro id a2 aQ cs w hid cM b0 hF ap c3 bL aE;obtain⟨a6,Y,rfl,dB⟩:=W6 b0;have di:=hF.lt;obtain⟨au,ay,bW,aG,bV⟩:=Bx w [l.kind,l.s0,l.s1,l.s2,l.s3,l.mn,l.mx,.slice a6 t Y] 43;have c8:=Zaa ay;have b2:=bW.drewN 1;have bq:=(hF.below aG di).drewN 1;have aO:=Bk aG 1 aG.size;have cd:=ap.C4 (w':=au.drewN 1) (fun b _ U=>aO.block b U) aO.size;have c5:w.heap.size< (au.drewN 1).heap.size:=b2.lt;have bT:(au.drewN 1).heap.size=w.heap.size+1:=by rw[Zhg];exact bV
 have dO:=Zaa bT;clear ay bV bW aG bT;go_enter func212,ntmps212
 go_upto_region 1 with fail
 have ay:=c8.out;rw[ay];clear ay c8;refine Ce [(0,.inl (some 0)),(1,.inl none),(2,.inl none),(3,.inl none),(4,.inl (some 0)),(5,.inl none),(6,.inr ([],[])),(7,.inl none)]
  (fun _ X=>X=au.drewN 1) [0] yG yG (fun _ _=>rfl) ?_
 refine Z3s ?_;generalize au.drewN 1=wd at*
 refine D9 (.agg [.int .u8 l.kind.toNat,.int .u64 l.s0.toNat,.int .u64 l.s1.toNat,.int .u64 l.s2.toNat,.int .u64 l.s3.toNat,.int .i64 l.mn,.int .i64 l.mx,.slice a6 t Y].toArray) rfl (fun W b5=>by subst b5;exact B6 43 _ rfl w.heap.size 0 rfl [l.kind,l.s0,l.s1,l.s2,l.s3,l.mn,l.mx,.slice a6 t Y] b2.range yG yG) ?_;refine Z4K ?_;refine Ba (.int .i64 id) yI (fun w' av=>?_) (fun K J=>?_)
 ·subst av
  have bw:=bq.cell (j:=1) rfl;go_simp
 refine Z2n ?_;clear J K;refine Z3Z ?_;refine A1 rfl (fun K J=>?_);go_wp2_with fail
 obtain⟨a0,ae,c9,H,bn⟩:=Bx wd [l.kind,l.s0,l.s1,l.s2,l.s3,l.mn,l.mx,.slice a6 t Y,id,zE,zH] 316;rw[ae];refine Z4v ?_;clear J K ae bn;refine Z3Z ?_;refine B1 ?_;have br:=bq.below H bq.lt;have bi:=b2.below H c5;have de:=cd.C4 (w':=a0) (fun b _ U=>H.block b U) H.size;have ar:Below w w a0:=aO.trans (H.mono aO.size);have dx:=c9.lt;have f1:=br.cell (j:=1) rfl;have cA:=br.frozen 1;have bg:=bi.cell (j:=0) rfl;have bt:=bi.cell (j:=7) rfl;have du:IntKind.i64.wrap ((id:Int)+1)=(id:Int)+1:=by rw[Zcw];simp only[Tree.size]at hid;omega
 have dP:¬fb=w:=yE;have dr:¬w=fb:=yE;go_upto_if 24 with fail
 have am:=br.set 1 (.int .i64 ((id:Int)+1));simp only[Zfi,Zfj]at am;have ad:=c9.Em (b':=fb) yE 1 (.int .i64 ((id:Int)+1));have bo:=bi.Em (b':=fb) yE 1 (.int .i64 ((id:Int)+1));have F:=As a0 fb 1 (.int .i64 ((id:Int)+1));have al:w.grownBy (a0.setCell ⟨fb,1,none⟩ (.int .i64 ((id:Int)+1))) (some fb):=⟨F.os.trans ar.os,F.tape.trans ar.tape,F.output.trans ar.output,Zag ar.size F.size,fun k O a3=>(F.block k (Zal O ar.size) a3).trans (ar.block k O)⟩;have aI:=de.C4 (w':=a0.setCell ⟨fb,1,none⟩ (.int .i64 ((id:Int)+1))) (fun b U H=>F.block b H (fun e=>bL (by rw[U,e]))) F.size;have df:=F.size;have cO:∀b,aQ.ownBlock=some b->b<w.heap.size:=ap.lt;clear f1 cA bg bt;generalize a0.setCell ⟨fb,1,none⟩ (.int .i64 ((id:Int)+1))=aw at*
 have bg:=bo.cell (j:=0) rfl;have dw:wd.heap.size<aw:=ad.lt;have bd:Tree.B3 (.node l t)=(if l.kind=6 then 1 else 0)+Be t:=E0 l t;rw[bd]at aE;go_cut [24] (fun v D=>∃V:Value,Ar D fb 278 [ag,.int .i64 ((id:Int)+1),V,af]/\Ar D wd 316 [l.kind,l.s0,l.s1,l.s2,l.s3,l.mn,l.mx,.slice a6 t Y,id,.int .i64 ((if l.kind=6 then a2.length else 0:Nat):Int),zH]/\Ar D w 43 [l.kind,l.s0,l.s1,l.s2,l.s3,l.mn,l.mx,.slice a6 t Y]/\E7 D V (a2++if l.kind=6 then [((-1:Int),(-1:Int))]else [])/\((a2++if l.kind=6 then [((-1:Int),(-1:Int))]else [])=[]->V=.slice none 0 0)/\(V=aQ\/∃g,V.ownBlock=some g/\w.heap.size<=g)/\(l.kind≠6->V=aQ)/\V.ownBlock≠some wd.heap.size/\V.ownBlock≠some fb/\w.grownBy D (some fb)/\wd.heap.size<D.heap.size)
 case first=>
  by_cases O:l.kind=6
  ·have cY:((l.kind.toNat:Int)==6)=true:=H4 O
   have c7:a2=[]:=by
    rw[if_pos O]at aE;exact Zeo.1 yE
   obtain rfl:=c3 c7;subst c7;have aH:=Zaa O;clear O;have cq:=am.cell (j:=2) rfl;have cT:=ad.cell (j:=9) rfl;have cU:=ad.frozen 9;go_upto_region 5 with fail
   have cZ:=ad.set 9 (.int .i64 0);have ci:=am.Em (b':=wd.heap.size) yE 9 (.int .i64 0);have da:=bo.Em (b':=wd.heap.size) yE 9 (.int .i64 0);have aq:=As aw wd 9 (.int .i64 0);have dR:=aq.size;generalize aw.setCell ⟨wd,9,none⟩ (.int .i64 0)=ac at*
   have b7:=ci.drewN 1;have ba:=cZ.drewN 1;have bK:=da.drewN 1;have b1:(ac.drewN 1).heap=ac.heap:=Zhg _ _;have ak:w.grownBy (ac.drewN 1) (some fb):=⟨(B5 ac 1 none).os.trans (aq.os.trans al.os),(B5 ac 1 none).tape.trans (aq.tape.trans al.tape),(B5 ac 1 none).output.trans (aq.output.trans al.output),by rw[b1];exact Zag al.size aq.size,fun k aS a3=>by rw[b1];exact(aq.block k (Zal aS al.size) (fun e=>uX)).trans (al.block k aS a3)⟩;have dN:wd.heap.size< (ac.drewN 1).heap.size:=ba.lt;refine Ce [(0,.inl none),(1,.inl none),(2,.inl none),(3,.inl none),(4,.inl (some 0)),(5,.inr ([],[0])),(6,.inr ([],[0])),(7,.inr ([],[])),(8,.inl none),(9,.inl none),(10,.inr ([],[]))]
    (fun _ X=>Ar X fb 278 [ag,.int .i64 ((id:Int)+1),zH,af]) [0] yG yG (fun _ _=>b7) ?_
   refine Z3s ?_;clear b1 cq cT cU bg;generalize ac.drewN 1=ch at*
   refine Z03 ?_;refine Z03 ?_;refine Ba (.slice none 0 0) yI (fun w' av=>?_) (fun K J=>?_)
   ·have bw:=Ar.cell (j:=2) av rfl
    go_simp
   refine Z2n ?_;clear J K;refine A1 rfl (fun K J=>?_);go_wp2_with fail
   refine(Aik ch).mono ?_;rintro e dn ⟨rfl,a1⟩;go_wp2_with fail
   refine J _ _ yF (Bg (fun h=>Ar.below h a1 h.lt)) ?_;clear J K;have cB:=b7.below a1 b7.lt;have bx:=ba.below a1 ba.lt;have ca:=bK.below a1 bK.lt;have dC:=a1.size;refine Aba Z5.Ab rfl rfl rfl rfl rfl _ _ 240 rfl (wd.heap.size+1) 244 2 16 Aac Ag1 yH [] (.slice none 0 0) (Au.nil _ _ _ _ _) (-1,-1) [zG,zG] rfl rfl yL (by simp[maxLen]) yF yE
    fb 2 278 [ag,.int .i64 ((id:Int)+1),zH,af] yE cB rfl (fun W=>yU) (fun v=>⟨rfl,rfl⟩) (.pointer (some ⟨fb,0,none⟩)) (fun v bk W=>yU) (fun v bk W=>yU) (fun v a4 dc a5 W h1 h2=>yU) (Bg (fun h=>Ar.alloc h _)) ?_
   intro a4 a5 ao aC cb aP a8 a7 db aV;have b8:Ar ao fb 278 [ag,.int .i64 ((id:Int)+1),(.slice a4 1 a5),af]:=aP;have aR:=bx.C4 (a8 _ bx.lt yE wO);have cl:=ca.C4 (a8 _ ca.lt yE wO);have aJ:=Zk_ yF aC;have dt:=aC.lt;have cu:w.grownBy ao (some fb):=⟨a7.os.trans (a1.os.trans ak.os),a7.tape.trans (a1.tape.trans ak.tape),a7.output.trans (a1.output.trans ak.output),by have:=a1.size;have:=ak.size;omega,fun k aS a3=>((a8 k (by have:=ak.size;omega) (fun e=>a3 (by rw[e])) wO).trans (a1.block k (by have:=ak.size;omega))).trans (ak.block k aS a3)⟩;have cg:∃g,(Value.slice a4 1 a5).ownBlock=some g/\wd.heap.size+1<=g:=by
    rcases aV with h | ⟨g,h1,h2⟩
    ·exfalso
     obtain⟨a9,dm,cW,_,h9⟩:=aJ;cases cW;rcases h9 with⟨h,-⟩ | ⟨dK,rfl,_⟩
     ·simp at h
     simp[Value.ownBlock]at h
    exact⟨g,h1,yE⟩
   obtain⟨g7,bc,dy⟩:=cg;clear a8 a7 a1;go_wp2_with fail
   go_meet
   case rel=>exact⟨.slice a4 1 a5,b8,by rw[if_pos aH.out];exact aR,cl,by rw[if_pos aH.out];exact aJ,fun h=>by rw[if_pos aH.out]at h;simp at h,.inr ⟨g7,bc,yE⟩,fun h=>absurd aH.out h,by rw[bc];intro e;injection e with e;omega,by rw[bc];intro e;injection e with e;omega,cu,aR.lt⟩
  have cY:((l.kind.toNat:Int)==6)=false:=D4 O;go_wp2_with fail
  go_meet
  case rel=>exact⟨aQ,am,by rw[if_neg O];exact ad,bo,by rw[if_neg O,Zdk];exact aI,fun h=>by rw[if_neg O,Zdk]at h;exact c3 h,.inl rfl,fun _=>rfl,fun e=>by have:=cO _ e;omega,bL,al,ad.lt⟩
 obtain⟨V,cC,bC,cm,bJ,bN,cr,cP,cH,cI,bU,dh⟩:=hcut;have dH:Bo wc az (.node l t) [l.kind,l.s0,l.s1,l.s2,l.s3,l.mn,l.mx,.slice a6 t Y]:=Tree.A6.block b0 (fun b U=>bU.block b yE (fun e=>uX));obtain⟨D,e⟩:∃D,D=wc:=⟨_,rfl⟩;subst e;obtain⟨aA,aL⟩:=zL ((a2++if l.kind=6 then [((-1:Int),(-1:Int))]else []));rw[aL]at bJ bN;obtain⟨M,aU⟩:=zL ((if l.kind=6 then a2.length+1 else a2.length));have bH:aA=M:=by rw[<-aL,<-aU];split<;>simp
 have dv:M+Be t<=1:=by rw[<-aU];split at aE<;>simp_all<;>omega
 obtain⟨an,bh⟩:∃an:Int,((if l.kind=6 then a2.length else 0:Nat):Int)=an:=⟨_,rfl⟩;rw[bh]at bC;have cx:=Zaa aL;have ck:=Zaa aU;have cv:=Zaa bh;have bY:=Zaa bH;have bF:=Zaa bd;clear aL aU bh bd bH aE;have dA:wd.heap.size<D.heap.size:=dh;have dD:w.heap.size<wd:=c5;have bt:=cm.cell (j:=7) rfl;have dg:=Au.nil (A2 (Ge Px V.ownBlock) D) D D 270 1;go_wp2_with fail
 clear bt;go_loopw [46] (fun bj wr=>∃(k:Nat) (sub G:Value),k<=t/\bj=.int .i64 k/\Ar wr fb 278 [ag,.int .i64 ((id+1+Tree.Bf (t.take k):Nat):Int),G,af]/\Ar wr wd 316 [l.kind,l.s0,l.s1,l.s2,l.s3,l.mn,l.mx,.slice a6 t Y,id,an,sub]/\
  Au (A2 (Ge Px G.ownBlock) D) D 270 1 wr (Gm (t.take k) (id+1) M) sub/\E7 wr G (aA++List.replicate (Be (t.take k)) ((-1:Int),(-1:Int)))/\((aA++List.replicate (Be (t.take k)) ((-1:Int),(-1:Int)))=[]->G=.slice none 0 0)/\
  (G=V\/∃g,G.ownBlock=some g/\w.heap.size<=g)/\(Be (t.take k)=0->G=V)/\G.ownBlock≠some wd.heap.size/\G.ownBlock≠some fb/\(sub.ownBlock=none\/sub.ownBlock≠G.ownBlock)/\w.grownBy wr (some fb)/\D.heap.size<=wr.heap.size) (fun bj _=>t.length - (intOf bj).toNat)
 case atStart=>exact⟨0,.slice none 0 0,V,Zap _,rfl,by simpa[Tree.Bf]using cC,bC,dg,by simpa[Be,Tree.Dw]using bJ,fun h=>bN (by simpa[Be,Tree.Dw]using h),.inl rfl,fun _=>rfl,cH,cI,.inl rfl,bU,Zab _⟩
 case round=>
  obtain⟨k,sub,G,dq,rfl,hF,aT,aN,ap,bv,bu,bX,bE,he,bD,aj,ds⟩:=hrel;by_cases ax:k<t
  ·have dJ:(k:Int) <t.length:=by omega
   have cG:Bo wr az (.node l t) [l.kind,l.s0,l.s1,l.s2,l.s3,l.mn,l.mx,.slice a6 t Y]:=Tree.A6.block b0 (fun b U=>aj.block b yE (fun e=>uX));obtain⟨bl,bs,A,aa,aB,aD,rfl,dL,bS,ab,cS⟩:=Rz cG ax;have d8:=Zat ax;have b3:=I7 t k ax;have dE:Tree.Bf (t.take (k+1))<=Tree.Bf t:=by
    have:=Tree.En (t.take (k+1)) (t.drop (k+1));rw[Zfo]at this;omega
   have be:Be (t.take (k+1))=Be (t.take k)+t[k].B3:=by
    rw[Zay ax,Ev,C6];simp[Be,Tree.Dw]
   have dz:Be (t.take (k+1))<=Be t:=by
    have:=Ev (t.take (k+1)) (t.drop (k+1));rw[Zfo]at this;omega
   have b4:Gm (t.take (k+1)) (id+1) M=Gm (t.take k) (id+1) M++[(t[k],id+1+Tree.Bf (t.take k),M+Be (t.take k))]:=by
    rw[Zay ax,Ac4]
   have b9:=ce t[k] d8;have cc:(Gm (t.take k) (id+1) M).length=k:=by rw[K8,Zbo];omega
   simp only[Tree.size]at hid;rw[bS]at b3 be b4 b9;have dk:=Zaa b3;have bm:=Zaa be;have cy:=Zaa b4;have b6:=Zaa cc;have dp:Tree.Bf (t.take k)+Tree.size (.node A aa)<=Tree.Bf t:=yE;have dG:M+Be (t.take k)+Tree.B3 (.node A aa)<=1:=yE;clear b3 be b4 cc bS;have d0:=ab 0 _ rfl;have d1:=ab 1 _ rfl;have d2:=ab 2 _ rfl;have d3:=ab 3 _ rfl;have d4:=ab 4 _ rfl;have d5:=ab 5 _ rfl;have d6:=ab 6 _ rfl;have d7:=ab 7 _ rfl;simp only[Zaf]at d0;obtain⟨a0,ae,c1,H,bn⟩:=Bx wr [A.kind,A.s0,A.s1,A.s2,A.s3,A.mn,A.mx,.slice aB aa aD] 43;have c2:=Zaa ae;have ah:=Bk H 1 H.size;have bz:=(hF.below H hF.lt).drewN 1;have bb:=(aT.below H aT.lt).drewN 1;have bB:=c1.drewN 1;have cE:=ap.C4 (w':=a0.drewN 1) (fun b _ U=>ah.block b U) ah.size;have bA:=(aN.below (A2.Ab (Ge.Ab Px.Ab _) _) H (Zab _)).drewN (A2.Ab (Ge.Ab Px.Ab _) _) 1;have cF:=Tree.In.below cS (ah.mono (by have:=hF.lt;omega));have dQ:wr.heap.size< (a0.drewN 1).heap.size:=bB.lt;have fe:w.grownBy (a0.drewN 1) (some fb):=⟨ah.os.trans aj.os,ah.tape.trans aj.tape,ah.output.trans aj.output,Zag aj.size ah.size,fun k O a3=>(ah.block k (Zal O aj.size)).trans (aj.block k O a3)⟩;have bI:=b9 (id+1+Tree.Bf (t.take k)) (aA++List.replicate (Be (t.take k)) ((-1:Int),(-1:Int))) G [A.kind,A.s0,A.s1,A.s2,A.s3,A.mn,A.mx,.slice aB aa aD] (a0.drewN 1) yE cM cF bz cE bv he (by simp only[Zbj,Zer,bY.out];omega);have cw:=Zaa bI;clear bI b9 ae c1 bn ab aN;go_upto_region 9 with fail
   have ae:=c2.out;rw[ae];clear ae c2 d0 d1 d2 d3 d4 d5 d6 d7;refine Ce [(0,.inl none),(1,.inl none),(2,.inl none),(3,.inl none),(4,.inl (some 0)),(5,.inl none),(6,.inl (some 0)),(7,.inr ([],[0])),(8,.inr ([],[0])),(9,.inr ([],[])),(10,.inl none),(11,.inl none),(12,.inr ([],[]))]
    (fun _ X=>Ar X wd 316 [l.kind,l.s0,l.s1,l.s2,l.s3,l.mn,l.mx,.slice (some ⟨bl,bs,none⟩) t Y,id,an,sub]/\Ar X wr 43 [A.kind,A.s0,A.s1,A.s2,A.s3,A.mn,A.mx,.slice aB aa aD]) [0] yG yG (fun _ _=>⟨bb,bB⟩) ?_
   refine Z3s ?_;generalize a0.drewN 1=dj at*
   refine Z03 ?_;refine Z03 ?_;refine Ba (sub) yI (fun w' av=>?_) (fun K J=>?_)
   ·have bw:=Ar.cell (j:=10) av.1 rfl
    go_simp
   refine Z2n ?_;clear J K;refine Z3Z ?_;refine D9 (.agg [.int .u8 A.kind.toNat,.int .u64 A.s0.toNat,.int .u64 A.s1.toNat,.int .u64 A.s2.toNat,.int .u64 A.s3.toNat,.int .i64 A.mn,.int .i64 A.mx,.slice aB aa aD].toArray) rfl (fun W b5=>B6 43 _ rfl wr.heap.size 0 rfl [A.kind,A.s0,A.s1,A.s2,A.s3,A.mn,A.mx,.slice aB aa aD] b5.2.range yG yG) ?_;refine A1 rfl (fun K J=>?_);go_wp2_with fail
   refine cw.out.mono ?_;rintro e aw ⟨dl,ai,rfl,am,aI,c4,bQ,c0,F⟩;have bO:wd≠fb:=yE;have cQ:wr≠fb:=by have:=hF.lt;omega
   go_wp2_with fail
   refine J _ _ yF (Bg (fun h=>⟨h.1.grown F (fun e=>by injection e with e;exact bO e),h.2.grown F (fun e=>by injection e with e;exact cQ e)⟩)) ?_;clear J K;have ad:=bb.grown F (fun e=>by injection e with e;exact bO e);have df:=F.size;have aM:=bA.lt;have aK:ai.ownBlock=G.ownBlock\/∃g,ai.ownBlock=some g/\dj.heap.size<=g:=by
    rcases c4 with e | h
    ·exact .inl (by rw[e])
    exact .inr h
   have ct:Au (A2 (Ge Px ai.ownBlock) D) D 270 1 aw (Gm (t.take k) (id+1) M) sub:=by
    refine Au.Om (Ge.Ab Px.Ab _) (bA.imp fun x cs aF=>?_) F yE;refine Px.Ab.wide aF fun b U=>⟨U.1,?_⟩
    rcases aK with e | ⟨g,e,aY⟩
    ·rw[e];exact U.2
    rw[e];intro T;injection T with T;have:=U.1.1.1;omega
   have bR:sub.ownBlock=none\/sub.ownBlock≠ai.ownBlock:=by
    rcases aK with e | ⟨g,e,aY⟩
    ·rw[e];exact bD
    rw[e];cases co:sub.ownBlock with
    | none=>exact .inl rfl
    | some q=>exact .inr (fun T=>by injection T with T;have:=(aM q co).2;omega)
   have bP:ai.ownBlock≠some wd.heap.size:=by
    rcases aK with e | ⟨g,e,aY⟩
    ·rw[e];exact bE
    rw[e];intro T;injection T with T;have:=bb.lt;omega
   have cN:ai.ownBlock≠some fb:=by
    rcases aK with e | ⟨g,e,aY⟩
    ·rw[e];exact he
    rw[e];intro T;injection T with T;have:=bz.lt;omega
   refine Aba (Ge.Ab Px.Ab _) rfl rfl rfl rfl rfl _ _ 314 rfl D.heap.size 270 1 8 Aad Ag2 yH (Gm (t.take k) (id+1) M) sub ct (.node A aa,id+1+Tree.Bf (t.take k),M+Be (t.take k)) [zK dl]
    ⟨_,rfl,by
     have cj:(aA++List.replicate (Be (t.take k)) ((-1:Int),(-1:Int))).length=M+Be (t.take k):=by simp only[Zbj,Zer,bY.out]
     rw[cj]at c0;exact Cs.move (fun _ _=>rfl) (fun b U=>⟨⟨⟨U.1.2,fun e=>by have:=(aM b e.symm).2;omega⟩,yE⟩,fun e=>U.2 e.symm⟩) _ _ _ _ c0⟩
    rfl yL (by rw[b6.out];unfold maxLen;omega) (by rw[b6.out];omega) yE
    wd.heap.size 10 316 [l.kind,l.s0,l.s1,l.s2,l.s3,l.mn,l.mx,.slice (some ⟨bl,bs,none⟩) t Y,id,an,sub] yE ad rfl (fun W=>yU) (fun v=>⟨rfl,rfl⟩) (.pointer (some ⟨wd,0,none⟩)) (fun v bk W=>yU) (fun v bk W=>yU) (fun v a4 dc a5 W h1 h2=>yU) (Bg (fun h=>⟨Ar.alloc h.1 _,Ar.alloc h.2 _⟩)) ?_
   intro a4 a5 ao aC cb aP a8 a7 db aV;rw[b6.out]at aC cb aP aV;have aR:Ar ao wd 316 [l.kind,l.s0,l.s1,l.s2,l.s3,l.mn,l.mx,.slice (some ⟨bl,bs,none⟩) t Y,id,an,(.slice a4 (k+1) a5)]:=aP;have cn:some fb≠sub.ownBlock:=fun e=>by have:=(aM fb e.symm).1;omega
   have b8:=am.C4 (a8 fb am.lt yE cn);have aJ:=aI.C4 (w':=ao) (fun b U H=>a8 b H (fun e=>bP (by rw[U,e])) (fun e=>by
    rcases bR with h | h
    ·rw[h]at e;cases e
    exact h (by rw[<-e,U]))) yE
   have dd:w.grownBy ao (some fb):=⟨a7.os.trans (F.os.trans fe.os),a7.tape.trans (F.tape.trans fe.tape),a7.output.trans (F.output.trans fe.output),tG,fun q aZ a3=>((a8 q tG yE (fun e=>by have:=(aM q e.symm).1;omega)).trans (F.block q tG a3)).trans (fe.block q aZ a3)⟩;have cR:(Value.slice a4 (k+1) a5).ownBlock=none\/(Value.slice a4 (k+1) a5).ownBlock≠ai.ownBlock:=Mg bR aV (fun q aZ=>aI.lt q aZ);clear a8 a7;go_wp2_with fail
   go_roundw
   case rel=>
    refine⟨k+1,.slice a4 (k+1) a5,ai,yE,yK,?_,aR,?_,?_,?_,?_,?_,bP,cN,cR,dd,yE⟩
    ·rw[dk.out,<-Zfx];exact b8
    ·rw[cy.out];exact aC
    ·rw[bm.out,<-Zfg,<-Zdj];exact aJ
    ·intro h
     rw[bm.out,<-Zfg,<-Zdj]at h;have h1:=List.append_eq_nil_iff.1 h;have h2:Tree.B3 (.node A aa)=0:=by have:=h1.2;simpa using this
     rw[bQ h2];exact bv h1.1
    ·rcases c4 with e | ⟨g,bf,T⟩
     ·rw[e];exact bu
     exact .inr ⟨g,bf,tG⟩
    intro h;rw[bm.out]at h;rw[bQ yE];exact bX yE
   case measure=>simp[intOf];omega
  obtain rfl:k=t:=by omega
  have fe:¬((t.length:Int) <t.length):=yE;rw[Zbk]at*
  obtain⟨cV,gc,bM,c6⟩:=aN.shape;rw[K8]at bM c6;have cJ:=aN.at;have cD:=aT.lt;have cX:Cs wr (fun b=>(w.heap.size<=b/\b<wr.heap.size)/\G.ownBlock≠some b) (.node l t) id a2.length (.pointer (some ⟨wd,0,none⟩)):=by
   simp only[Cs];subst bM;refine⟨wd,a6,t.length,Y,cV,gc,rfl,⟨⟨yE,cD⟩,bE⟩,?_,c6,?_⟩
   ·have:=aT.range
    rw[<-cv.out]at this;exact this
   rcases cJ with h0 | ⟨g,dm,aX,dI,cL,d9⟩
   ·left
    have:=Zhr List.length h0;rw[K8]at this;exact Zeo.1 this
   right
   injection aX with bf T dF;subst bf;refine⟨g,0,rfl,⟨⟨yE,cL⟩,fun e=>by
    rcases bD with h | h
    ·simp[Value.ownBlock]at h
    exact h yS⟩,Ee.Vn t _ _ _ fun i aW=>?_⟩
   obtain⟨cs,dM,cf,bZ,-⟩:=d9 i (by rw[K8];exact aW);have cp:=Afn t (id+1) M i aW;have cK:(Gm t (id+1) M)[i]'(by rw[K8];exact aW)=(t[i],id+1+Tree.Bf (t.take i),M+Be (t.take i)):=(Zeg.1 cp).2;rw[cK]at bZ;obtain⟨v,rfl,aX⟩:=bZ;refine⟨v,?_,?_⟩
   ·have:=cf 0 v rfl
    rw[Zba,Zaf]at this;rw[Zac];exact this
   rw[ck.out];exact Cs.move (fun _ _=>rfl) (fun b U=>⟨⟨by have:=U.1.2;omega,U.1.1.1⟩,fun e=>U.2 e.symm⟩) _ _ _ _ aX
  go_wp2_with fail
  go_ret;refine⟨wd,rfl,G,?_,?_,?_,?_,cX,aj⟩
  ·have cz:((id+1+Tree.Bf t:Nat):Int)=(id:Int)+((Tree.node l t).size:Int):=by simp only[Tree.size];omega
   rw[cz]at hF;exact hF
  ·rw[bF.out]
   rw[<-cx.out]at ap;have:(a2++(if l.kind=6 then [((-1:Int),(-1:Int))]else []))++List.replicate (Be t) ((-1:Int),(-1:Int))=a2++List.replicate ((if l.kind=6 then 1 else 0)+Be t) ((-1:Int),(-1:Int)):=by
    rw[<-Zfg,<-Zdj];split<;>rfl
   rw[<-this];exact ap
  ·rcases bu with e | h
   ·rw[e];exact cr
   exact .inr h
  intro h;rw[bF.out]at h;have h6:l.kind≠6:=fun e=>by rw[if_pos e]at h;omega
  rw[if_neg h6]at h;rw[bX yE,cP h6]
end
section
open Tryz Go.RowKit Go.Shelf
theorem Od {fn:Func} {p q r:Tmp} (h:fn.results=#[.tmp p,.tmp q,.tmp r]) (tmps:Array Value) (w:zN) (u v x:Value) (hp:tmps.getD p undef=u) (D:tmps.getD q undef=v) (A:tmps.getD r undef=x):(results fn tmps).run prog w=.ok (.tuple #[u,v,x]) w:=by
 rw[Zbv]at hp D A;simp only[results,h];simp[Zgv,Result.andThen,hp,D,A]
def Vw (s:zQ) (t:Rx) (i d a:Nat):List Nat:=match t.pre[i]? with
 | some x=>De s x d a
 | none=>[]
theorem Agu (s:zQ) (t:Rx):L4 s (Vw s t) t 0:=by
 intro k h d a;simp only[Vw,Zac,Zam h]
theorem Afu (t:Rx) (an:F3 t) (aB:t.B3<=1) (s:zQ) (aN:s.length<=512) (H:zO) (G:Nat) (cs:zP) (w:zN) (n:Nat) (a0:n<=w) (aM:Kn w n s (.slice H s G)) (a2:Bo w n t cs):
  Calls prog 163 #[.agg cs.toArray,.slice H s G] w fun e w'=>∃fb M Y V,e=.returned (.tuple #[zK fb,zK M,zE])/\Ar w' fb 278 [.slice H s G,t.size,Y,.map (some V)]/\E7 w' Y (List.replicate t.B3 (-1,-1))/\
   w'.heap[V]? =some (.map #[] 0)/\w.heap.size<=V/\V<fb/\(∀b,Y.ownBlock=some b->fb<b)/\Cs w' (fun b=>(fb<b/\b<w'.heap.size)/\Y.ownBlock≠some b) t 0 0 (.pointer (some ⟨M,0,none⟩))/\Below w w w':=by
 have a8:=a2
 have aP:=an.size
 obtain⟨a9,s0,s1,s2,s3,mn,mx,a5,aa,a4,rfl⟩:=Bo.eight a2
 obtain⟨ar,F,e3,O,aA⟩:=Bx w [a9,s0,s1,s2,s3,mn,mx,.slice a5 aa a4] 43
 have ap:=Zaa F
 have ak:=Zaa (S8 t false false [a9,s0,s1,s2,s3,mn,mx,.slice a5 aa a4] ar n an (Zag a0 O.size) (a8.below (O.mono a0)))
 simp only[Zas,Zau]at ak
 refine Z17 ?_
 intro dg dm cd et j1 fk cp j2
 have aO:¬(s.length:Int) >512:=yE
 have ai:=Zaa e3
 have ay:=Zaa a8
 clear F aA e3 a2 a8
 go_enter func163,ntmps163
 go_upto_region 1 with fail
 have F:=ap.out
 rw[F]
 clear F ap
 go_wp2_with fail
 refine ak.out.mono ?_
 rintro e A ⟨rfl,ad⟩
 clear dg dm cd et j1 fk cp j2
 have a7:=ai.out.below ad ai.out.lt
 have J:=O.trans (ad.mono O.size)
 have aG:w.heap.size<A:=a7.lt
 obtain⟨T,cr⟩:=zL (A.alloc (.map #[] 0))
 obtain⟨a1,ao,a3,aj,aH⟩:=Bx T [.slice H s G,zE,zH,.map (some A.heap.size)] 278
 have a6:T.heap.size=A+1:=xK
 have ae:Below A A T:=by rw[<-cr];exact Bq _ _
 have aJ:T.heap[A.heap.size]? =some (.map #[] 0):=by rw[<-cr];exact Zhe A _
 rw[a6]at a3
 have am:Below A A a1:=ae.trans (aj.mono ae.size)
 have au:a1.heap[A.heap.size]? =some (.map #[] 0):=(aj.block _ yE).trans aJ
 have D:=a7.below am aG
 have ab:=J.trans (am.mono J.size)
 have af:=Zaa cr
 have ah:=Zaa ao
 have aR:=Zaa a6
 clear cr ao a6 aH a7
 have ax:∀W:World,(Instr.makeMap 276 none).run prog W=.ok (.map (some W.heap.size)) (W.alloc (.map #[] 0)):=fun _=>rfl
 go_upto_region 6 with fail
 rw[af.out,ah.out]
 clear ax af ah
 have dg:=D.cell (j:=0) rfl
 have dm:=D.cell (j:=1) rfl
 have cd:=D.cell (j:=2) rfl
 have et:=D.cell (j:=3) rfl
 have j1:=D.cell (j:=4) rfl
 have fk:=D.cell (j:=5) rfl
 have cp:=D.cell (j:=6) rfl
 have j2:=D.cell (j:=7) rfl
 have aQ:=a3.lt
 have al:=Zaa (Agp (A+1) n (.slice H s G) (.map (some A.heap.size)) t yE 0 [] (.slice none 0 0) [a9,s0,s1,s2,s3,mn,mx,.slice a5 aa a4] a1 yE (by have:=J.size;omega) (Tree.In.below ay.out (ab.mono a0)) a3 ⟨none,0,rfl,Zab _,.inl ⟨rfl,rfl⟩⟩ (fun _=>rfl) wO (by simpa using aB))
 simp only[Zac,Zau,Zav]at al
 go_wp2_with fail
 refine al.out.mono ?_
 rintro e ag ⟨M,ac,rfl,aw,aI,aE,-,aK,aq⟩
 have aD:∀b,ac.ownBlock=some b->A.heap.size+1<b:=by
  intro b U;rcases aE with e | ⟨g,e,aL⟩
  ·rw[e]at U;cases U
  rw[e]at U;injection U with U;omega
 have av:=(aq.block _ yE (fun e=>uX)).trans au
 have aF:Below w w ag:=ab.grown aq ab.size (fun r e=>by injection e with e;have:=J.size;omega)
 have az:w.heap.size<=A:=J.size
 have aC:=Cs.move (S':=fun b=>(A.heap.size+1<b/\b<ag.heap.size)/\ac.ownBlock≠some b) (fun _ _=>rfl) (fun b U=>⟨⟨yQ,U.1.2⟩,U.2⟩) _ _ _ _ aK
 go_wp2_with fail
 exact Zho (Od rfl _ _ (.pointer (some ⟨A+1,0,none⟩)) (.pointer (some ⟨M,0,none⟩)) (.int .i64 0) rfl rfl rfl) rfl ⟨A+1,M,ac,A.heap.size,rfl,aw,aI,av,az,Nat.lt_succ_self _,aD,aC,aF⟩
theorem Kept.toBelow {A:Nat} {R:Nat->Nat->Nat->List Nat} {O:zT} {X Y:zN} {m:Nat} (h:Kept A R O X Y) (hm:m<=A) (F:∀b,O b->m<=b) (H:m<=X):Below m X Y:=
 ⟨h.os,h.tape,h.output,h.size,fun k G=>h.block k yE yE (fun D=>by have:=F k D;omega)⟩
theorem Aid (t:Rx) (an:F3 t) (ac:Told t) (aB:t.B3<=1) (s:zQ) (a3:s.length<=512) (a2:De s t 0 0=[s.length]) (G:zO) (F:Nat) (cs:zP) (w:zN) (n:Nat) (a0:n<=w) (aa:Kn w n s (.slice G s F)) (a4:Bo w n t cs):
  Calls prog 131 #[.agg cs.toArray,.slice G s F] w fun e w'=>∃A,e=.returned (.tuple #[A,zE])/\E7 w' A (Gw s t 0 0 s (List.replicate t.B3 (-1,-1)))/\Below w w w':=by
 have ak:=a4
 have aP:=an.size
 obtain⟨al,s0,s1,s2,s3,mn,mx,ag,am,af,rfl⟩:=Bo.eight a4
 obtain⟨Y,V,e3,M,aA⟩:=Bx w [al,s0,s1,s2,s3,mn,mx,.slice ag am af] 43
 have ar:=Zaa V
 have ay:=Zaa (Afu t an aB s a3 G F [al,s0,s1,s2,s3,mn,mx,.slice ag am af] Y n (Zag a0 M.size) (Dr.Ab.below aa (M.mono a0)) (ak.below (M.mono a0)))
 refine Z17 ?_
 intro dg dm cd et j1 fk cp j2
 clear V aA e3 a4 ak
 go_enter func131,ntmps131
 go_upto_region 1 with fail
 have V:=ar.out
 rw[V]
 clear V ar
 go_wp2_with fail
 refine ay.out.mono ?_
 rintro e D ⟨fb,au,A,H,rfl,aq,ao,aM,aj,aQ,W,av,O⟩
 clear dg dm cd et j1 fk cp j2
 have a7:=M.size
 have ai:=M.trans (O.mono a7)
 have aT:=aq.lt
 have a1:Fin D H fb (fun b=>b<n\/b=fb\/((fb<b/\b<D.heap.size)/\A.ownBlock≠some b)) s G F (t.size:Int) A:=⟨aq,(Dr.Ab.wide (Dr.Ab.below aa (ai.mono a0)) (fun b U=>.inl U)),fun b U=>by
  rcases U with U | U | U
  ·exact⟨yE,yE⟩
  ·exact⟨yE,yE⟩
  exact⟨U.1.2,yE⟩,.inr (.inl rfl)⟩
 have a9:=Cs.move (S':=fun b=>b<n\/b=fb\/((fb<b/\b<D.heap.size)/\A.ownBlock≠some b)) (fun _ _=>rfl) (fun b U=>.inr (.inr U)) _ _ _ _ av
 have a8:=Agu s t
 have a6:Ho D H (fun _=>False) (Vw s t):=⟨#[],0,aM,fun e he=>by simp at he⟩
 have a5:=Ut H fb _ s a3 G F (t.size:Int) A (Vw s t) t ac yE 0 (Zap _) 0 0 (.pointer (some ⟨au,0,none⟩)) 0 D (fun _=>False) a1 a9 a8 (fun b U=>U.elim) a6 (by rw[a2];simp)
 rw[a8.self 0 0,a2]at a5
 have aJ:=Zaa a5
 have aS:=a6.lt
 clear a5 av
 go_wp2_with fail
 refine aJ.out.mono ?_
 rintro e T ⟨aR,rfl,aH,J⟩
 have aL:=J.size
 obtain⟨aG,lc,rfl,aD,-⟩:=Sd (n:=T.heap.size) aH (fun b U=>by
  rcases U with U | U
  ·exact U.elim
  exact U.2)
 have ah:=Zaa (Oo aG lc [(s.length:Int)] (s.length:Int) T T yF aD)
 simp only[Zao,Zav,Zac,List.any_cons,Zdi,Zcm,beq_self_eq_true]at ah
 go_wp2_with fail
 refine ah.out.mono ?_
 rintro e aO ⟨rfl,rfl⟩
 have ae:=a1.kept J
 have aF:=Cs.move (S':=fun b=>b<n\/b=fb\/((fb<b/\b<D.heap.size)/\A.ownBlock≠some b)) (fun b U=>J.block b (a1.ns b U).1 (a1.ns b U).2 (fun h=>h)) (fun _ h=>h) _ _ _ _ a9
 have aE:=J.I5 (fun _=>False) (fun b U=>U.elim) a6
 have aI:∀b,A.ownBlock=some b->b<D.heap.size:=ao.lt
 have aw:=ao.C4 (w':=T) (fun b U O=>J.block b O (by have:=W b U;omega) (fun h=>h)) aL
 have ad:=Akb H fb _ s G F (t.size:Int) A (Vw s t) a3 (fun b U e=>by
  have h1:=W b e;rcases U with U | U | U
  ·omega
  ·omega
  exact U.2 e) (fun e=>by have:=W H e;omega) t ac yE 0 0 (.pointer (some ⟨au,0,none⟩)) 0 s T _ (List.replicate t.B3 (-1,-1)) ae aF a8 (fun b U=>by
  rcases U with U | U
  ·exact U.elim
  exact⟨U.2.1,yE,fun e=>by have:=aI b e;omega⟩) aE aw a2 yF
 have aC:=Zaa ad
 clear ad
 go_wp2_with fail
 refine aC.out.mono ?_
 rintro e ab ⟨rfl,aN,ap⟩
 have az:∀b,A.ownBlock=some b->Y.heap.size<=b:=fun b U=>by have:=W b U;omega
 have aK:Below w w ab:=(ai.trans ((J.toBelow (m:=Y.heap.size) aj (fun b h=>h.elim) O.size).mono a7)).trans ((ap.toBelow (m:=Y.heap.size) aj az (by have:=O.size;omega)).mono a7)
 have ax:Ar ab fb 278 [.slice G s F,t.size,A,.map (some H)]:=ae.box.C4 (ap.block fb yE yE (fun e=>by have:=W fb e;omega))
 have cd:=ax.cell (j:=2) rfl
 go_wp2_with fail
 go_ret2
 exact⟨A,rfl,aN,aK⟩
end
section
open Tryz Go.RowKit Go.Shelf
def Dm (xs:zQ):ByteArray:=⟨xs.toArray⟩
theorem Ac8 (xs:zQ):strOfNums (xs.map fun c=>(c.toNat:Int))=Dm xs:=by
 simp[strOfNums,Function.comp_def,Dm]
theorem Ms {w:zN} {S:zT} {xs:zQ} {a:zO} {n c:Nat} (h:Dr w S xs (.slice a n c)):
  (convert 22 9 (.slice a n c)).run prog w=.ok (.string (Dm xs)) w:=by
 have hu:prog.underlying 22=some (.slice 5):=yG
 have he:prog.underlying 5=some (.int .u8):=yG
 have A:prog.underlying 9=some .string:=yG
 obtain⟨G,J,e,H,h⟩:=h
 cases e
 rcases h with rfl | ⟨b,off,rfl,_,F⟩
 ·simp only[Zav]
  rw[run_convert_bytes_string w 22 9 5 _ 0 c hu he A];cases a<;>simp[Conv.bytesToString,loadCells]
  all_goals rfl
 rw[<-Ac8]
 refine run_convert_bytes_arg (P:=prog) w 22 5 hu he b off xs c (xs.map fun c=>(c.toNat:Int)) yF (fun i ae=>?_) 9 A
 have D:i<xs:=xE
 rw[byte_at F D]
 simp[List.getD,D]
theorem Afe {w:zN} {S:zT} {xs:zQ} {b o c:Nat} (h:Dr w S xs (.slice (some ⟨b,o,none⟩) xs c)) (G:xs≠[]) {i k:Nat} (V:i<=k) (H:k<=xs):Dr w S ((xs.take k).drop i) (.slice (some ⟨b,o+i,none⟩) (k - i) (c - i)):=by
 obtain⟨J,T,e,O,h⟩:=h;cases e;have D:((xs.take k).drop i).length=k - i:=yJ;refine⟨_,_,by rw[D],yE,?_⟩;rcases h with h | ⟨b',W,e,U,F⟩
 ·exact absurd h G
 cases e;refine .inr ⟨b,o+i,rfl,U,fun j v A=>?_⟩;have M:j<k - i:=by
  have:=(Zeg.1 A).1;rw[Zeq,D]at this;exact this
 have:=F (i+j) v (by
  rw[<-A];simp only[Zbl,Zef,Zeh];rw[if_pos yE])
 rwa[<-Zfx]at this
theorem Al4 {w:zN} {lo:Nat} {e:TypeId} {l:List ByteArray} {v:Value} (h:Au Eh lo e 1 w l v):Al Eh 1 w (fun b=>lo<=b/\b<w) l v:=by
 obtain⟨F,h1,h2,h3⟩:=h;obtain⟨a,c,rfl,M⟩:=h1.shape;refine⟨a,c,by rw[h2],yE,?_⟩;rcases h1.at_ with h0 | ⟨g,O,G,J,H,A⟩
 ·left;rw[h0]at h2;exact Zeo.1 h2.symm
 cases G;exact .inr ⟨g,0,rfl,⟨J,H⟩,fun i D=>⟨F[i]'yE,A i yE,h3 i D yE⟩⟩
def Lv (s:zQ) (A:List (Int×Int)):List ByteArray:=Dm s::A.map fun p=>Dm ((s.take p.2.toNat).drop p.1.toNat)
theorem Afv (t:Rx) (aj:F3 t) (ax:Told t) (ac:t.B3<=1) (s:zQ) (av:s.length<=512) (ak:s≠[]) (ao:De s t 0 0=[s.length]) (A:List (Int×Int)) (al:Gw s t 0 0 s (List.replicate t.B3 (-1,-1))=A) (ap:∀p∈A,0<=p.1/\p.1<p.2/\p.2<=s.length)
  (a0:zO) (M:Nat) (cs:zP) (w:zN) (n:Nat) (G:n<=w) (V:Kn w n s (.slice a0 s M)) (Y:Bo w n t cs):
  Calls prog 97 #[.agg cs.toArray,.slice a0 s M] w fun e w'=>∃v,e=.returned (.tuple #[v,zE])/\Al Eh 1 w' (fun b=>w<=b/\b<w') (Lv s A) v/\Below w w w':=by
 have af:=Y
 have aW:=aj.size
 have b3:A.length<=1:=by rw[<-al,Xz];simpa using ac
 obtain⟨ag,s0,s1,s2,s3,mn,mx,ae,ah,ad,rfl⟩:=Bo.eight Y
 obtain⟨aq,J,e3,F,aE⟩:=Bx w [ag,s0,s1,s2,s3,mn,mx,.slice ae ah ad] 43
 have am:=Zaa J
 have aa:=Zaa (Aid t aj ax ac s av ao a0 M [ag,s0,s1,s2,s3,mn,mx,.slice ae ah ad] aq n (Zag G F.size) (Dr.Ab.below V (F.mono G)) (af.below (F.mono G)))
 rw[al]at aa
 refine Z17 ?_
 intro dg dm cd et j1 fk cp j2
 clear J aE e3 Y af
 obtain⟨bd,bc,es,bf,aI⟩:=id V
 cases es
 rcases aI with h | ⟨aR,aS,rfl,be,az⟩
 ·exact absurd h ak
 go_enter func97,ntmps97
 go_upto_region 1 with fail
 have J:=am.out
 rw[J]
 clear J am
 go_wp2_with fail
 refine aa.out.mono ?_
 rintro e D ⟨b5,rfl,aL,ar⟩
 clear dg dm cd et j1 fk cp j2
 have O:=F.trans (ar.mono F.size)
 obtain⟨b4,b2,rfl,ba,aw⟩:=id aL
 have a2:=Dr.Ab.below V (O.mono G)
 have an:=Ms a2
 have aD:=Zaa a2
 have a9:n<=D:=Zag G O.size
 clear a2 V az
 go_wp2_with fail
 have aP:Au Eh D 9 1 (D.alloc (.cells #[.string (Dm s)] 9)) (Dm s::(A.take 0).map fun p=>Dm ((s.take p.2.toNat).drop p.1.toNat)) (.slice (some ⟨D,0,none⟩) 1 1):=
  Au.new D D 1 9 [Dm s] [[.string (Dm s)]] D 1 rfl rfl (Zab _) rfl yF (by simp[maxLen]) (fun i h1 h2=>by
   simp only[Zao,Zav]at h1;obtain rfl:i=0:=yE;rfl)
 have au:Below D D (D.alloc (.cells #[.string (Dm s)] 9)):=Bq _ _
 clear an
 go_loopw [8,25] (fun aC a3 wr=>∃k:Nat,k<=A/\a3=.int .i64 k/\Au Eh D 9 1 wr (Dm s::(A.take k).map fun p=>Dm ((s.take p.2.toNat).drop p.1.toNat)) aC/\Below D D wr) (fun _ a3 _=>A.length - (intOf a3).toNat)
 case atStart=>exact⟨0,Zap _,rfl,aP,au⟩
 case round=>
  obtain⟨k,aQ,rfl,W,U⟩:=hrel;by_cases H:k<A
  ·have b7:(k:Int) <A.length:=by omega
   rcases aw with⟨h,-⟩ | ⟨b8,rfl,aJ,aO⟩
   ·rw[h]at H;simp at H
   obtain⟨T,-⟩:=aO k H;obtain⟨h1,h2,h3⟩:=ap _ (Zat H);have a4:=Zay H;generalize A[k]=p at T h1 h2 h3 a4;obtain⟨aU,aY⟩:=p;obtain⟨a,rfl⟩:=Int.eq_ofNat_of_zero_le h1;obtain⟨z,rfl⟩:=Int.eq_ofNat_of_zero_le (Int.le_trans h1 (Int.le_of_lt h2));simp only at T h2 h3;have aB:a<=z:=yE;have aZ:a<M:=yE;have b0:¬M - a=0:=yE;have ay:z<=s:=yE;have a6:=Aa T U aJ;have d0:=a6 0 _ rfl;have d1:=a6 1 _ rfl;rw[Zaf]at d0;have aV:max (a:Int) 0=a:=yE;have bb:max (z:Int) 0=z:=yE;have aH:=Dr.Ab.below aD.out (U.mono a9);have aG:=Afe aH ak aB ay;have a5:Below wr wr (wr.alloc (.cells #[.int .i64 (a:Int),.int .i64 (z:Int)] 244)):=Bq _ _;have b1:=Ms (Dr.Ab.below aG (a5.mono (Zag a9 U.size)));have ab:=W.below Eh.Ab a5 (Zab _);have a1:(Dm s::(A.take k).map fun p=>Dm ((s.take p.2.toNat).drop p.1.toNat)).length=k+1:=yJ;obtain⟨b9,lc,a8,aM⟩:=ab.shape;rw[a1]at a8 aM;subst a8;have aA:=Zaa a4;have a7:=Zaa a1;clear T a6 a4 W h1 h2 h3 a1;go_wp2_with (at_builtin;go_loud (refine Am Eh.Ab rfl _ _ 85 rfl D.heap.size 9 1 16 K6 M7 yH (Dm s::(A.take k).map fun p=>Dm ((s.take p.2.toNat).drop p.1.toNat)) _ rfl ab (Dm ((s.take z).drop a)) [.string (Dm ((s.take z).drop a))] rfl yF rfl rfl yL (by rw[a7.out];unfold maxLen;omega) (by rw[a7.out];omega) (by have:=U.size;simp;omega) ?_;intro aT j2 aX ai aN aF _ _ _))
   rw[a7.out]at ai aN;have aK:=(U.trans (a5.mono U.size)).trans aF;go_wp2;exact⟨⟨k+1,yE,yK,by rw[aA.out,Zet,Zbi,Zeu,<-Zas];exact ai,aK⟩,xJ⟩
  obtain rfl:k=A:=by omega
  have b6:¬((A.length:Int) <A.length):=yE;rw[Zbk]at W;go_wp2_with fail
  go_ret2;exact⟨_,rfl,(Al.Ab Eh.Ab).wide (Al4 W) (fun b U=>⟨Zag O.size U.1,U.2⟩),O.trans (U.mono O.size)⟩
end
end Go.Proofs.YtafmoofknjncpaaGreatDoor
