/- A part of the proof that ModelWrong holds: its theorems stand as they are typed. -/
import Derived.Test.YtafmoofknjncpaaGreatDoorQs
import Derived.Test.YtafmoofknjncpaaGreatDoorQc
set_option linter.all false
set_option maxRecDepth 100000
set_option maxHeartbeats 8000000
namespace Go.Proofs.YtafmoofknjncpaaGreatDoor
open Tryz Go.RowKit Go.Shelf
def Uj (r:A7):Option Nl:=if r.kind=1 then some ⟨r.Bh,r.Bp,r.Bu⟩else if r.kind=2 then some ⟨false,false,No⟩else none
def Eg (A:List A7):List Nl:=A.filterMap Uj
def Gu:List A7->Nat->List Int
 | [],_=>[]
 | r::A,k=>if(Uj r).isSome then(k:Int)::Gu A (k+1)else Gu A (k+1)
theorem Ajy (A:List A7) (r:A7):∀k,Gu (A++[r]) k=if(Uj r).isSome then Gu A k++[((k+A.length:Nat):Int)]else Gu A k:=by
 induction A with
 | nil=>intro k;simp[Gu]
 | cons x A D=>
  intro k;simp only[Zas,Gu,D (k+1),Zao];split<;>split<;>simp[Nat.add_comm,Nat.add_left_comm]
theorem Af5 (A:List A7) (r:A7):Eg (A++[r])=Eg A++(Uj r).toList:=by
 simp only[Eg,List.filterMap_append];cases h:Uj r<;>simp[List.filterMap,h]
theorem R3 (A:List A7):(Eg A).length<=A.length:=List.length_filterMap_le _ _
theorem Amr (A:List A7):∀k,(Gu A k).length<=A.length:=by
 induction A with
 | nil=>intro k;simp[Gu]
 | cons x A D=>
  intro k;have:=D (k+1);simp only[Gu,Zao];split<;>simp<;>omega
theorem U4:prog.underlying 193=some (.slice 45):=yG
theorem Yu:(prog.info? 45).map (fun i=>(i.size,i.bytes,i.zero.map fun z=>z.cells.size))=some (10,88,some 10):=yG
theorem Adp {w:zN} {b o:Nat} {pre mid post:zP} (h:w.rangeAt b o (pre++(mid++post))):w.rangeAt b (o+pre) mid:=fun j v A=>by
 have D:j<mid:=(Zeg.1 A).1;exact Og h j v (by rw[Zbp D];exact A)
def Ge {α:Type} (I:World->(Nat->Prop)->α->List Value->Prop) (q:Option Nat) (w:zN) (S:zT) (x:α) (cs:zP):Prop:=I w (fun b=>S b/\some b≠q) x cs
section
variable {α:Type} {I cbf:World->(Nat->Prop)->α->List Value->Prop} {w w':zN} {lo K:Nat} {e:TypeId} {v:Value} {l:List α} {q bza:Option Nat}
theorem Ge.Ab (hI:Cp I) (q:Option Nat):Cp (Ge I q):=fun w w' S S' x c A hm h=>hI w w' _ _ x c (fun b o F U D=>A b o F U.1 D) (fun b U=>⟨hm b U.1,U.2⟩) h
theorem Au.imp (h:Au I lo e K w l v) (hI:∀x cs,I w (fun b=>b<w/\some b≠v.ownBlock) x cs->cbf w (fun b=>b<w/\some b≠v.ownBlock) x cs):Au cbf lo e K w l v:=by
 obtain⟨A,h1,h2,h3⟩:=h;exact⟨A,h1,h2,fun i a b=>hI _ _ (h3 i a b)⟩
theorem Au.Qy (hI:Cp I) (h:Au (Ge I q) lo e K w l v) (g:w.grownBy w' q) (G:v.ownBlock=none\/v.ownBlock≠q) (D:bza=q\/∃g,bza=some g/\w.heap.size<=g):Au (Ge I bza) lo e K w' l v:=by
 obtain⟨F,h1,h2,h3⟩:=h;refine⟨F,h1.grown g G,h2,fun i a b=>?_⟩;refine hI.wide (hI.block (h3 i a b) fun k A=>g.block k A.1.1 A.2) fun k A=>⟨⟨Zal A.1.1 g.size,A.1.2⟩,?_⟩
 rcases D with rfl | ⟨J,rfl,H⟩
 ·exact A.2
 intro e;cases e;have:=A.1.1;omega
theorem Ij {a b:Option Nat} (h:a=none\/a≠b):b=none\/b≠a:=by
 cases b with
 | none=>exact .inl rfl
 | some k=>
  refine .inr fun e=>?_
  rcases h with h | h
  ·rw[h]at e;cases e
  exact h e.symm
theorem Mg {a A b:Option Nat} {n:Nat} (h:a=none\/a≠b) (D:A=a\/∃g,A=some g/\n<=g) (U:∀k,b=some k->k<n):A=none\/A≠b:=by
 rcases D with rfl | ⟨g,rfl,F⟩
 ·exact h
 exact .inr fun e=>by have:=U g e.symm;omega
theorem Au.off (hI:Cp I) (h:Au (Ge I q) lo e K w l v):Au I lo e K w l v:=h.imp fun x cs A=>hI.wide A fun b U=>U.1
end
theorem X9 (b3:zS) (dd:List A7) (bC:dd.length<=60) (aQ:∀r∈dd,(r.kind=1->r.Bu.size<=10000)/\(r.kind=2->r.text=⟨#[122,122]⟩)) (b6:Value) (w:zN) (n:Nat) (aR:n<=w) (aZ:Al Bj 16 w (fun b=>b<n) dd b6):
  Calls prog 95 #[.agg #[b3,b6]] w fun e w'=>∃A O,e=.returned (.tuple #[A,O])/\Al Gv 10 w' (fun b=>b<w') (Eg dd) A/\Al Di 1 w' (fun b=>b<w') (Gu dd 0) O/\Below w w w':=by
 obtain⟨bh,bi,rfl,bK,aj⟩:=id aZ
 obtain⟨a8,Y,b0,aa,bk⟩:=Bx w [b3,.slice bh dd bi] 37
 have b4:=Zaa Y
 have bl:=b0.cell (j:=1) rfl
 have bu:=Au.nil (Ge Gv none) a8 a8 45 10
 have br:=Au.nil (Ge Di none) a8 a8 3 1
 clear Y b0 bk
 go_enter func95,ntmps95
 go_upto_region 1 with fail
 have Y:=b4.out
 rw[Y]
 clear Y b4
 go_wp2_with fail
 clear bl
 go_loopw [4,5,11] (fun A O v wr=>∃j:Nat,j<=dd/\v=.int .i64 j/\Au (Ge Gv O.ownBlock) a8 45 10 wr (Eg (dd.take j)) A/\Au (Ge Di A.ownBlock) a8 3 1 wr (Gu (dd.take j) 0) O/\(A.ownBlock=none\/A.ownBlock≠O.ownBlock)/\Below a8 a8 wr) (fun _ _ v _=>dd.length - (intOf v).toNat)
 case atStart=>exact⟨0,Zap _,rfl,bu,br,.inl rfl,Zai _ _⟩
 case round=>
  obtain⟨j,aS,rfl,ah,hI,a3,U⟩:=hrel;obtain⟨bA,bB,rfl,bE⟩:=ah.shape;obtain⟨T,V,rfl,bD⟩:=hI.shape;have bg6:=R3 (dd.take j);have bd:=Amr (dd.take j) 0;rw[Zbo,Zgb aS]at bg6 bd;by_cases ad:j<dd
  ·have bJ:(j:Int) <dd.length:=by omega
   rcases aj with rfl | ⟨b,o,rfl,bI,aj⟩
   ·simp at ad
   obtain⟨cs,g1,g2⟩:=aj j ad;have ay:=aQ _ (Zat ad);have ai:=Zay ad;generalize dd[j]=x at g1 g2 ay ai;obtain⟨bG,O,rfl,aw,aG,aF,rfl,-⟩:=id g2;have b5:=aw;obtain⟨a9,s0,s1,s2,s3,mn,mx,a5,ab,a4,rfl⟩:=Bo.eight aw;simp only[Zas,Zau]at g1;have e0:=Aa g1 (aa.trans (U.mono aa.size)) yE;obtain⟨k,ar⟩:=zL (x.kind);obtain⟨b1,aP⟩:=zL (x.Bh);obtain⟨b2,aO⟩:=zL (x.Bp);obtain⟨aI,az⟩:=zL (x.text);have bex:Uj x=if k=1 then some ⟨b1,b2,x.Bu⟩else if k=2 then some ⟨false,false,No⟩else none:=by rw[<-ar,<-aP,<-aO];rfl
   rw[ar,az]at ay;obtain⟨b8,bm⟩:=ay;rw[ar,aP,aO,az]at e0;generalize x.Az=aA at e0;generalize x.A3=aN at e0;generalize x.Bl=co at e0;generalize x.Aw=ax at e0;have aX:Eg (dd.take (j+1))=Eg (dd.take j)++(Uj x).toList:=by rw[ai,Af5]
   have aD:=Ajy (dd.take j) x 0;rw[<-ai,Zbo,Zgb aS,Zac]at aD;have bw:=Zaa b5;have tc:=Zaa aX;have bti:=Zaa aD;refine Z10 ?_;intro d0 d1 d2 d3 d4 d5 d6 d7 d8 d9;have d10:=e0 10 _ rfl;have d11:=e0 11 _ rfl;have d12:=e0 12 _ rfl;have d13:=e0 13 _ rfl;have d14:=e0 14 _ rfl;have d15:=e0 15 _ rfl;simp only[Zaf]at d0;clear g1 g2 e0 aw b5 ar aP aO az ai aX aD aj aQ aZ;obtain⟨ae,a6,aT,bt,bq⟩:=Bx wr [k,b1,b2,a9,s0,s1,s2,s3,mn,mx,.slice a5 ab a4,aI,aA,.slice aG ax aF,aN,co] 48;have aV:=Zaa a6;have hq:=Zaa aT;have iv:=aa.trans (U.mono aa.size);have zb:=Zaa (U.trans (bt.mono U.size));have ft:=Zaa (Tree.In.below bw.out ((aa.trans (zb.out.mono aa.size)).mono aR));clear a6 aT bq;go_upto_region 6 with fail
   have a6:=aV.out;rw[a6];clear a6 aV d0 d1 d2 d3 d4 d5 d6 d7 d8 d9 d10 d11 d12 d13 d14 d15;have aY:=hq.out.cell (j:=0) rfl;have aH:=Zaa ah;have aJ:=Zaa hI;clear ah hI;by_cases h1:k=1
   ·have bp:((k.toNat:Int)==1)=true:=H4 h1
    rw[if_pos h1]at bex
    go_upto_block 2 with fail
    go_cut [4] (fun A M=>∃G D,A=.slice G ((Eg (dd.take j)).length+1) D/\(Eg (dd.take j)).length+1<=D/\Au (Ge Gv (Value.slice T (Gu (dd.take j) 0).length V).ownBlock) a8 45 10 M (Eg (dd.take j)++[⟨b1,b2,x.Bu⟩]) A/\Au (Ge Di A.ownBlock) a8 3 1 M (Gu (dd.take j) 0) (.slice T (Gu (dd.take j) 0).length V)/\(A.ownBlock=none\/A.ownBlock≠(Value.slice T (Gu (dd.take j) 0).length V).ownBlock)/\Below a8 a8 M)
    case first=>
     go_upto_region 8 with fail
     refine Ce [(0,.inl none),(1,.inl none),(2,.inl none),(3,.inl (some 0)),(4,.inl none),(5,.inl none),(6,.inl (some 0)),(7,.inl none),(8,.inl none),(9,.inl (some 0)),(10,.inr ([],[0])),(11,.inl none),(12,.inr ([],[])),(13,.inr ([],[])),(14,.inl none)]
      (fun _ X=>Ar X wr 48 [k,b1,b2,a9,s0,s1,s2,s3,mn,mx,.slice a5 ab a4,aI,aA,.slice aG ax aF,aN,co]) [0] yG yG (fun _ _=>hq.out.drewN 1) ?_
     refine Z3s ?_;have ac:=(aH.out.below (Ge.Ab Gv.Ab _) bt (Zab _)).drewN (Ge.Ab Gv.Ab _) 1;have a2:=(aJ.out.below (Ge.Ab Di.Ab _) bt (Zab _)).drewN (Ge.Ab Di.Ab _) 1;have aU:=Tree.In.drewN ft.out 1;have aE:=Bk zb.out 1 zb.out.size;have aW:=hq.out.drewN 1;have af:a8.heap.size<=(ae.drewN 1).heap.size:=aE.size;generalize ae.drewN 1=wd at*
     have bb:=Zaa aU;have bF:=Zaa aW;have bx:=Zaa aE;clear aU aW aE;refine Z4K ?_;refine Ba (.bool b1) yI (fun w' av=>?_) (fun K J=>?_)
     ·have ba:=Ar.cell (j:=1) av rfl
      go_simp
     refine Z2n ?_;clear J K;refine Z03 ?_;refine Ba (.bool b2) yI (fun w' av=>?_) (fun K J=>?_)
     ·have ba:=Ar.cell (j:=2) av rfl
      go_simp
     refine Z2n ?_;clear J K;refine Z03 ?_;refine D9 (.agg #[a9,s0,s1,s2,s3,mn,mx,.slice a5 ab a4]) rfl (fun W bc=>B6 43 _ rfl wr.heap.size 3 rfl [a9,s0,s1,s2,s3,mn,mx,.slice a5 ab a4] (Adp (pre:=[k,b1,b2]) (mid:=[a9,s0,s1,s2,s3,mn,mx,.slice a5 ab a4]) (post:=[aI,aA,.slice aG ax aF,aN,co]) (Ar.range bc)) yG yG) ?_;refine A1 rfl (fun K J=>?_);go_wp2_with fail
     refine(Ah6 x.Bu _ wd n (b8 h1) (Zag (Zag aR aa.size) af) bb.out).mono ?_;rintro e b9 ⟨bg,rfl,H,F⟩;have aK:=Zaa H;obtain⟨ag,q1,ak,an,ao,al,am,ap,au,aq,rfl⟩:=Bo.eight H.in;clear H;go_wp2_with fail
     refine J _ _ yF (Bg (fun h=>Ar.below h F (Ar.lt h))) ?_;clear J K;refine Jh 45 _ #[b1,b2,ag,q1,ak,an,ao,al,am,.slice ap au aq] rfl rfl yG (fun K J=>J _ ?_);refine A1 rfl (fun K J=>?_);go_wp2_with fail
     refine Z4v ?_;clear J K;have bn:=F.size;have aL:=ac.below (Ge.Ab Gv.Ab _) F (Zab _);have aC:=a2.below (Ge.Ab Di.Ab _) F (Zab _);refine A1 rfl (fun K J=>?_);refine Am (Ge.Ab Gv.Ab _) rfl _ _ 193 rfl a8.heap.size 45 10 88 U4 Yu yH (Eg (dd.take j)) _ rfl aL ⟨b1,b2,x.Bu⟩ [b1,b2,ag,q1,ak,an,ao,al,am,.slice ap au aq] rfl rfl ⟨_,rfl,B2.Ab.wide aK.out (fun b U=>⟨⟨U.2,fun e=>by have:=(ac.lt b e.symm).2;omega⟩,fun e=>by have:=(a2.lt b e.symm).2;omega⟩)⟩ rfl yL yP yE yE ?_;intro G D b7 ni a7 bj aM l9 a0;simp only[wpList,Dz];refine Z4v ?_;clear J K;refine Z3Z ?_;refine B1 ?_;go_wp2_with fail
     have a1:=aC;have aB:=bx.out.trans (F.mono af);go_meet
     case rel=>exact⟨G,D,rfl,a7,ni,a1.Qy Di.Ab aM (Ij a3) a0,Mg a3 a0 (fun k e=>(a1.lt k e).2),aB.trans bj⟩
    obtain⟨G,D,rfl,a7,ni,bay,blx,bj⟩:=hcut;clear aY;exact Z0B
   have bp:((k.toNat:Int)==1)=false:=D4 h1;rw[if_neg h1]at bex;by_cases h2:k=2
   ·have bv:((k.toNat:Int)==2)=true:=H4 h2
    rw[if_pos h2]at bex;have bf:=bm h2;subst bf;have be:=Zaa Anf;have bo:=hq.out.cell (j:=11) rfl
    go_upto_block 2 with fail
    go_cut [4] (fun A M=>∃G D,A=.slice G ((Eg (dd.take j)).length+1) D/\(Eg (dd.take j)).length+1<=D/\Au (Ge Gv (Value.slice T (Gu (dd.take j) 0).length V).ownBlock) a8 45 10 M (Eg (dd.take j)++[⟨false,false,No⟩]) A/\Au (Ge Di A.ownBlock) a8 3 1 M (Gu (dd.take j) 0) (.slice T (Gu (dd.take j) 0).length V)/\(A.ownBlock=none\/A.ownBlock≠(Value.slice T (Gu (dd.take j) 0).length V).ownBlock)/\Below a8 a8 M)
    case first=>
     go_wp2_with fail
     refine(be.out ae).mono ?_;rintro e b9 ⟨bg,rfl,H,F⟩;have aK:=Zaa H;obtain⟨ag,q1,ak,an,ao,al,am,ap,au,aq,rfl⟩:=Bo.eight H.in;clear H;have ac:=aH.out.below (Ge.Ab Gv.Ab _) bt (Zab _);have a2:=aJ.out.below (Ge.Ab Di.Ab _) bt (Zab _);have aL:=ac.below (Ge.Ab Gv.Ab _) F (Zab _);have aC:=a2.below (Ge.Ab Di.Ab _) F (Zab _);have bn:=F.size;have af:a8.heap.size<=ae:=zb.out.size;go_wp2_with (at_builtin;go_loud (refine Am (Ge.Ab Gv.Ab _) rfl _ _ 193 rfl a8.heap.size 45 10 88 U4 Yu yH (Eg (dd.take j)) _ rfl aL ⟨false,false,No⟩ [zA,zA,ag,q1,ak,an,ao,al,am,.slice ap au aq] rfl rfl ⟨_,rfl,B2.Ab.wide aK.out (fun b U=>⟨⟨U.2,fun e=>by have:=(ac.lt b e.symm).2;omega⟩,fun e=>by have:=(a2.lt b e.symm).2;omega⟩)⟩ rfl yL yP yE yE ?_;intro G D b7 ni a7 bj aM l9 a0))
     have a1:=aC;have aB:=zb.out.trans (F.mono af);go_meet
     case rel=>exact⟨G,D,rfl,a7,ni,a1.Qy Di.Ab aM (Ij a3) a0,Mg a3 a0 (fun k e=>(a1.lt k e).2),aB.trans bj⟩
    obtain⟨G,D,rfl,a7,ni,bay,blx,bj⟩:=hcut;clear aY bo;exact Z0B
   have bv:((k.toNat:Int)==2)=false:=D4 h2;rw[if_neg h2]at bex;go_wp2_with fail
   go_roundw
   case rel=>
    have bz:=tc.out;have bo:=bti.out;simp only[bex,Option.toList_none,Zdk,Zgn,Zbd,Zhz]at bz bo;exact⟨j+1,yE,yK,by rw[bz];exact aH.out.below (Ge.Ab Gv.Ab _) bt (Zab _),by rw[bo];exact aJ.out.below (Ge.Ab Di.Ab _) bt (Zab _),a3,zb.out⟩
   case measure=>simp[intOf];omega
  obtain rfl:j=dd:=by omega
  have bH:¬((dd.length:Int) <dd.length):=yE;rw[Zbk]at*
  go_wp2_with fail
  go_ret2;exact⟨_,_,rfl,(ah.off Gv.Ab).list Gv.Ab,(hI.off Di.Ab).list Di.Ab,aa.trans (U.mono aa.size)⟩
end Go.Proofs.YtafmoofknjncpaaGreatDoor
